/- What the program's tables hold from the start: the functions of eval.numbers. -/
import Derived.Test.YtolkhapmieigcaaGreatDoorProg
import Derived.Deep.Quiet
import Derived.Laws.AppendOwn
import Derived.Laws.OwnMore
import Derived.Laws.Sem
import Derived.Laws.World
import Derived.Laws.Cells
import Derived.Laws.Entries
import Derived.Laws.BytesArg
import Derived.Laws.MakeOwn
import Derived.Test.YtolkhapmieigcaaGreatDoorRows
import Derived.ProofKit
import Derived.LaidMore
import Derived.LaidOnce
import Derived.LaidHandle
import Derived.FnData
import Derived.OpenShut
set_option linter.unusedVariables false
set_option maxHeartbeats 8000000
set_option maxRecDepth 100000
set_option linter.unusedSimpArgs false
set_option linter.defProp false
namespace Go
abbrev wM:=List Value
end Go
namespace Go
abbrev wE:=List (Nat×Nat)
end Go
namespace Go
abbrev wD:=Option Nat
end Go
namespace Go
abbrev wC:=List Int
end Go
namespace Go
abbrev wA:=List Nat
end Go
namespace Go
def jA:=@Nat.le_refl
def jA0:=@List.getElem_mem
def jA1:=@Option.some.injEq
def jA2:=@List.getElem?_eq_getElem
def jA3:=@List.mem_cons
def jA4:=@List.length_append
def jA5:=@List.getElem?_eq_some_iff
def jA6:=@List.mem_append
def jA7:=@Bool.and_eq_true
def jA8:=@List.take_succ_eq_append_getElem
def jA9:=@Option.bind_eq_some_iff
def jAa:=@List.length_map
def jAb:=@List.length_cons
def jAc:=@List.map_cons
def jAd:=@List.getElem?_set_ne
def jAe:=@Option.map_eq_some_iff
def jAf:=@List.mem_map
def jAg:=@Option.bind_eq_bind
def jAh:=@List.take_of_length_le
def jAi:=@List.mem_cons_of_mem
def jAj:=@Bool.false_eq_true
def jAk:=@List.mem_singleton
def jAl:=@List.getElem_of_mem
def jAm:=@List.getElem?_set_self
def jAn:=@List.length_singleton
def jAo:=@List.getElem?_append_left
def jAp:=@List.mem_cons_self
def jAq:=@List.append_assoc
def jAr:=@List.not_mem_nil
def jAs:=@List.append_nil
def jAt:=@List.foldl_cons
def jAu:=@Nat.min_eq_left
def jAv:=@List.length_take
def jAw:=@Option.some.inj
def jAx:=@Nat.zero_add
def jAy:=@List.drop_drop
def jAz:=@Nat.lt_or_ge
def jB:=@Nat.zero_le
def jB0:=@List.all_eq_true
def jB1:=@Nat.le_trans
def jB2:=@List.take_length
def jB3:=@Array.length_toList
def jB4:=@List.length_nil
def jB5:=@List.getElem_map
def jB6:=@Nat.add_mul
def jB7:=@List.getElem?_cons_zero
def jB8:=@List.getElem?_append_right
def jB9:=@Nat.add_assoc
def jBa:=@Bool.or_eq_true
def jBb:=@List.drop_eq_getElem_cons
def jBc:=@List.getElem?_take
def jBd:=@List.cons.injEq
def jBe:=@List.getElem?_eq_none
def jBf:=@List.cons_append
def jBg:=@List.length_filter_le
def jBh:=@List.map_append
def jBi:=@List.getElem?_cons_succ
def jBj:=@Nat.mul_le_mul_right
def jBk:=@List.map_nil
def jBl:=@Prod.mk.injEq
def jBm:=@List.flatMap_cons
def jBn:=@List.getElem?_map
def jBo:=@Nat.succ_mul
def jBp:=@List.nil_append
def jBq:=@List.mem_append_left
def jBr:=@List.foldl_append
def jBs:=@List.take_append_drop
def jBt:=@List.eq_nil_of_length_eq_zero
def jBu:=@List.mem_of_getElem?
def jBv:=@List.mem_of_mem_drop
def jBw:=@Nat.sub_self
def jBx:=@List.pairwise_cons
def jBy:=@Bool.not_eq_true'
def jBz:=@List.getD_eq_getElem?_getD
def jC:=@List.mem_range
def jC0:=@List.pairwise_iff_getElem
def jC1:=@List.size_toArray
def jC2:=@List.exists_cons_of_length_pos
def jC3:=@List.mem_of_mem_take
def jC4:=@Array.ext'
def jC5:=@List.find?_cons
def jC6:=@List.map_congr_left
def jC7:=@Option.map_some
def jC8:=@Bool.not_eq_true
def jC9:=@List.flatMap_append
def jCa:=@List.take_append_of_le_length
def jCb:=@List.map_map
def jCc:=@Option.isNone_iff_eq_none
def jCd:=@List.ext_getElem?
def jCe:=@Nat.lt_of_lt_of_le
def jCf:=@Nat.add_zero
def jCg:=@List.length_drop
def jCh:=@Nat.add_comm
def jCi:=@List.flatten_append
def jCj:=@List.singleton_append
def jCk:=@List.getElem_append_right
def jCl:=@Int.le_refl
def jCm:=@Int.toNat_natCast
def jCn:=@Option.getD_some
def jCo:=@Nat.le_succ
def jCp:=@Bool.false_or
def jCq:=@List.getElem?_drop
def jCr:=@List.pairwise_append
def jCs:=@List.filter_append
def jCt:=@Bool.and_eq_false_iff
def jCu:=@List.getElem_append_left
def jCv:=@Bool.true_and
def jCw:=@List.pairwise_map
def jCx:=@List.length_set
def jCy:=@Array.getElem?_toList
def jCz:=@Option.map_none
def jD:=@List.nodup_append
def jD0:=@List.headD_cons
def jD1:=@Int.emod_nonneg
def jD2:=@List.nodup_cons
def jD3:=@List.drop_left'
def jD4:=@Array.getElem?_eq_some_iff
def jD5:=@List.find?_eq_none
def jD6:=@List.find?_some
def jD7:=@List.mem_of_find?_eq_some
def jD8:=@Int.natCast_add
def jD9:=@Int.mul_le_mul_of_nonneg_right
def jDa:=@Int.emod_lt_of_pos
def jDb:=@List.mem_filterMap
def jDc:=@List.map_singleton
def jDd:=@List.mem_replicate
def jDe:=@List.mapM_cons
def jDf:=@Array.toArray_toList
def jDg:=@List.getElem?_of_mem
def jDh:=@List.drop_eq_nil_of_le
def jDi:=@List.length_filterMap_le
def jDj:=@List.getElem_cons_zero
def jDk:=@List.Perm.append_left
def jDl:=@List.perm_append_comm
def jDm:=@Int.tmod_nonneg
def jDn:=@Array.toList_setIfInBounds
def jDo:=@Option.pure_def
def jDp:=@List.mem_flatten
def jDq:=@Array.getElem?_append_left
def jDr:=@List.nodup_iff_pairwise_ne
def jDs:=@List.getElem_set_self
end Go
namespace Go.Abs
def zMG:List (Nat×wM):=[(0,[.func (.func 255) #[] #[],.func (.func 256) #[] #[],.func (.func 257) #[] #[],.func (.func 258) #[] #[],.func (.func 259) #[] #[]])]
end Go.Abs
namespace Go.Abs
inductive A where
 |any
 |nil
 |lit (v:Value)
 |agg (cs:List A)
 |tup (cs:List A)
 |sl (n:Nat) (cs:List A)
 |fsl (n:Nat) (cs:List A)
 |ptr (l off:Nat)
 |rptr (cs:List A)
 |row (l n:Nat)
 |rwp (l n off:Nat)
 |map (l:Nat)
 |win (l n o k c:Nat)
 |clo (f:FuncId) (first cap:List A)
 deriving Inhabited
abbrev wF:=List A
def zMH(b o:Nat):Option Value:=match zMG.lookup b with
 |some vs=>vs[o]?
 |none=>none
abbrev Mem:={f:Nat->Nat->Option Value // ∀b o v,zMH b o=some v->f b o=some v}
instance:CoeFun Mem fun _=>Nat->Nat->Option Value:=⟨fun H=>H.1⟩
def zH7:Value->A
 | .func (.func f) ⟨[]⟩ ⟨[]⟩=>.clo f [] []
 |v=>.lit v
structure LI where
 block:Option Nat
 cap:Nat
 len:Nat
 isRow:Bool
abbrev wO:=List LI
def At(H:Mem)(b o:Nat)(us:wM):Prop:=∀i u,us[i]?=some u->H b (o+i)=some u
def one(v:Value):Prop:=v.oneCell'=true
mutual
def Rel(H:Mem)(L:wO):A->Value->Prop
 | .any,_=>True
 | .nil,v=>v=.slice none 0 0
 | .lit u,v=>v=u
 | .agg cs,v=>∃vs:wM,v=.agg vs.toArray/\z6 H L cs vs/\∀u∈vs,one u
 | .tup cs,v=>∃vs:wM,v=.tuple vs.toArray/\z6 H L cs vs
 | .sl n cs,v=>∃a cap,v=.slice a n cap/\n<=cap/\cap<=maxLen/\((n=0/\cs=[]) \/
  ∃b o,∃us:wM,a=some ⟨b,o,none⟩/\z6 H L cs us/\(∀u∈us,one u)/\At H b o us)
 | .fsl n cs,v=>∃a,v=.slice a n n/\n<=maxLen/\((n=0/\cs=[]) \/
  ∃b o,∃us:wM,a=some ⟨b,o,none⟩/\z6 H L cs us/\(∀u∈us,one u)/\At H b o us)
 | .ptr l off,v=>∃li b,L[l]?=some li/\li.block=some b/\li.isRow=false/\v=.pointer (some ⟨b,off,none⟩)
 | .rptr cs,v=>∃b o,∃us:wM,v=.pointer (some ⟨b,o,none⟩)/\z6 H L cs us/\(∀u∈us,one u)/\At H b o us
 | .row l n,v=>one v/\∃li,L[l]?=some li/\li.isRow=true/\n<=li.len /\
  (n=li.len->v=match li.block with|none=>.slice none 0 0|some b=>.slice (some ⟨b,0,none⟩) n li.cap)
 | .rwp l n off,v=>one v/\∃li,L[l]?=some li/\li.isRow=true/\n<=li.len/\(n=li.len->∃b,li.block=some b/\v=.pointer (some ⟨b,off,none⟩))
 | .map l,v=>∃li b,L[l]?=some li/\li.block=some b/\li.isRow=false/\v=.map (some b)
 | .win l n o k c,v=>one v/\∃li,L[l]?=some li/\li.isRow=true/\n<=li.len /\
  (n=li.len->k<=n/\∃ad cap,v=.slice ad k cap/\k<=cap/\cap<=maxLen/\(cap=0\/∃b,li.block=some b/\ad=some ⟨b,o,none⟩/\o+cap*c<=li.cap*c))
 | .clo f first cap,v=>∃fs cs:wM,v=.func (.func f) fs.toArray cs.toArray/\z6 H L first fs/\z6 H L cap cs
def z6(H:Mem)(L:wO):List A->List Value->Prop
 |[],vs=>vs=[]
 |c::cs,vs=>∃u us,vs=u::us/\Rel H L c u/\z6 H L cs us
end
theorem zNv{k cap o c:Nat}{li:LI}{ad:Option Addr}(h:k<=cap)(g:cap=0\/∃b,li.block=some b/\ad=some ⟨b,o,none⟩/\o+cap*c<=li.cap*c):k=0\/∃b,li.block=some b/\ad=some ⟨b,o,none⟩ :=
 g.imp (fun h0=>by omega) fun⟨b,g1,g2,_⟩=>⟨b,g1,g2⟩
def HLe(H H':Mem):Prop:=∀b o v,H b o=some v->H' b o=some v
def LLe(L L':wO):Prop:=∀(i:Nat) (l:LI),L[i]?=some l->∃l':LI,L'[i]?=some l'/\(l'=l\/(l.isRow=true/\l'.isRow=true/\l.len<l'.len)\/(l.block=none/\l.isRow=false/\l'.isRow=false))
theorem HLe.refl(H:Mem):HLe H H:=fun _ _ _ h=>h
variable{H H':Mem}
theorem HLe.trans{H'':Mem}(h:HLe H H')(k:HLe H' H''):HLe H H'':=fun b o v e=>k b o v (h b o v e)
theorem LLe.refl(L:wO):LLe L L:=fun _ l h=>⟨l,h,.inl rfl⟩
variable{L L':wO}
theorem LLe.trans{L'':wO}(h:LLe L L')(k:LLe L' L''):LLe L L'':=by
 intro i l e;obtain⟨l',e',hl⟩:=h i l e;obtain⟨l'',e'',hl'⟩:=k i l' e';refine⟨l'',e'',?_⟩;rcases hl with rfl|⟨a,b,c⟩|⟨a,b,c⟩
 .exact hl'
 .rcases hl' with rfl|⟨a',b',c'⟩|⟨a',b',c'⟩
  .exact .inr (.inl ⟨a,b,c⟩)
  .exact .inr (.inl ⟨a,b',by omega⟩)
  .rw[b]at b';cases b'
 .rcases hl' with rfl|⟨a',b',c'⟩|⟨a',b',c'⟩
  .exact .inr (.inr ⟨a,b,c⟩)
  .rw[c]at a';cases a'
  .exact .inr (.inr ⟨a,b,c'⟩)
theorem LLe.append(L M:wO):LLe L (L++M):=fun i l h=>⟨l,by rw[jAo (jA5.1 h).1];exact h,.inl rfl⟩
theorem At.mono{b o us}(h:At H b o us)(hh:HLe H H'):At H' b o us:=fun i u e=>hh _ _ _ (h i u e)
mutual
theorem Rel.mono{H H':Mem}{L L':wO}(hh:HLe H H')(hl:LLe L L'):∀(a:A) {v:Value},Rel H L a v->Rel H' L' a v
 | .any,_,_=>by simp[Rel]
 | .nil,_,h=>by simpa[Rel]using h
 | .lit _,_,h=>by simpa[Rel]using h
 | .agg cs,v,h=>by simp only[Rel]at h⊢;obtain⟨vs,rfl,h1,h2⟩:=h;exact⟨vs,rfl,z6.mono hh hl cs h1,h2⟩
 | .tup cs,v,h=>by simp only[Rel]at h⊢;obtain⟨vs,rfl,h1⟩:=h;exact⟨vs,rfl,z6.mono hh hl cs h1⟩
 | .sl n cs,v,h=>by
  simp only[Rel]at h⊢;obtain⟨a,cap,rfl,h1,h2,h3⟩:=h;refine⟨a,cap,rfl,h1,h2,?_⟩;rcases h3 with h3|⟨b,o,us,rfl,h4,h5,h6⟩
  .exact .inl h3
  .exact .inr ⟨b,o,us,rfl,z6.mono hh hl cs h4,h5,h6.mono hh⟩
 | .fsl n cs,v,h=>by
  simp only[Rel]at h⊢;obtain⟨a,rfl,h1,h3⟩:=h;refine⟨a,rfl,h1,?_⟩;rcases h3 with h3|⟨b,o,us,rfl,h4,h5,h6⟩
  .exact .inl h3
  .exact .inr ⟨b,o,us,rfl,z6.mono hh hl cs h4,h5,h6.mono hh⟩
 | .ptr l off,v,h=>by
  simp only[Rel]at h⊢;obtain⟨li,b,e,h1,h2,h3⟩:=h;obtain⟨l',e',hl'⟩:=hl _ _ e;rcases hl' with rfl|⟨a,_⟩|⟨a,_⟩
  .exact⟨_,b,e',h1,h2,h3⟩
  .rw[h2]at a;cases a
  .rw[h1]at a;cases a
 | .rptr cs,v,h=>by simp only[Rel]at h⊢;obtain⟨b,o,us,rfl,h4,h5,h6⟩:=h;exact⟨b,o,us,rfl,z6.mono hh hl cs h4,h5,h6.mono hh⟩
 | .row l n,v,h=>by
  simp only[Rel]at h⊢;obtain⟨h0,li,e,h1,h2,h3⟩:=h;obtain⟨l',e',hl'⟩:=hl _ _ e;rcases hl' with rfl|⟨a,b,c⟩|⟨_,a,_⟩
  .exact⟨h0,_,e',h1,h2,h3⟩
  .exact⟨h0,l',e',b,by omega,fun he=>by omega⟩
  .rw[h1]at a;cases a
 | .rwp l n off,v,h=>by
  simp only[Rel]at h⊢;obtain⟨h0,li,e,h1,h2,h3⟩:=h;obtain⟨l',e',hl'⟩:=hl _ _ e;rcases hl' with rfl|⟨a,b,c⟩|⟨_,a,_⟩
  .exact⟨h0,_,e',h1,h2,h3⟩
  .exact⟨h0,l',e',b,by omega,fun he=>by omega⟩
  .rw[h1]at a;cases a
 | .win l n o k c,v,h=>by
  simp only[Rel]at h⊢;obtain⟨h0,li,e,h1,h2,h3⟩:=h;obtain⟨l',e',hl'⟩:=hl _ _ e;rcases hl' with rfl|⟨a,b,c⟩|⟨_,a,_⟩
  .exact⟨h0,_,e',h1,h2,h3⟩
  .exact⟨h0,l',e',b,by omega,fun he=>by omega⟩
  .rw[h1]at a;cases a
 | .map l,v,h=>by
  simp only[Rel]at h⊢;obtain⟨li,b,e,h1,h2,h3⟩:=h;obtain⟨l',e',hl'⟩:=hl _ _ e;rcases hl' with rfl|⟨a,_⟩|⟨a,_⟩
  .exact⟨_,b,e',h1,h2,h3⟩
  .rw[h2]at a;cases a
  .rw[h1]at a;cases a
 | .clo f first cap,v,h=>by simp only[Rel]at h⊢;obtain⟨fs,cs,rfl,h1,h2⟩:=h;exact⟨fs,cs,rfl,z6.mono hh hl first h1,z6.mono hh hl cap h2⟩
theorem z6.mono{H H':Mem}{L L':wO}(hh:HLe H H')(hl:LLe L L'):∀(cs:wF) {vs:wM},z6 H L cs vs->z6 H' L' cs vs
 |[],vs,h=>by simpa[z6]using h
 |c::cs,vs,h=>by simp only[z6]at h⊢;obtain⟨u,us,rfl,h1,h2⟩:=h;exact⟨u,us,rfl,Rel.mono hh hl c h1,z6.mono hh hl cs h2⟩
end
section
variable{H:Mem}{L:wO}
theorem jF:z6 H L [] []:=by simp[z6]
variable{vs:wM}
theorem qF{c:A}{cs:wF}{v:Value}(h:Rel H L c v)(hs:z6 H L cs vs):z6 H L (c::cs) (v::vs):=by simp only[z6];exact⟨v,vs,rfl,h,hs⟩
theorem zZ{c:A}{cs:wF}(h:z6 H L (c::cs) vs):∃u us,vs=u::us/\Rel H L c u/\z6 H L cs us:=by
 simpa only[z6]using h
theorem qY(h:z6 H L [] vs):vs=[]:=by simpa only[z6]using h
theorem z6.length:∀{cs:wF} {vs:wM},z6 H L cs vs->vs.length=cs.length
 |[],vs,h=>by simp[qY h]
 |c::cs,vs,h=>by obtain⟨u,us,rfl,_,h2⟩:=zZ h;simp[z6.length h2]
theorem z6.get:∀{cs:wF} {vs:wM},z6 H L cs vs->∀{i:Nat} {c:A},cs[i]?=some c->∃v,vs[i]?=some v/\Rel H L c v
 |[],_,_,i,c,hc=>by simp at hc
 |c::cs,vs,h,i,d,hd=>by
  obtain⟨u,us,rfl,h1,h2⟩:=zZ h;cases i with
  |zero=>simp only[jB7,jA1]at hd;subst hd;exact⟨u,by simp,h1⟩
  |succ i=>simp only[jBi]at hd ⊢;exact z6.get h2 hd
theorem z6.append:∀{cs:wF} {vs:wM} {ds:wF} {us:wM},z6 H L cs vs->z6 H L ds us->z6 H L (cs++ds) (vs++us)
 |[],vs,ds,us,h,h'=>by rw[qY h];exact h'
 |c::cs,vs,ds,us,h,h'=>by obtain⟨u,ws,rfl,h1,h2⟩:=zZ h;exact qF h1 (z6.append h2 h')
theorem z6.take:∀{cs:wF} {vs:wM} (n:Nat),z6 H L cs vs->z6 H L (cs.take n) (vs.take n)
 |_,_,0,_=>by simp[z6]
 |[],vs,n+1,h=>by rw[qY h];simp[z6]
 |c::cs,vs,n+1,h=>by obtain⟨u,ws,rfl,h1,h2⟩:=zZ h;exact qF h1 (z6.take n h2)
theorem z6.drop:∀{cs:wF} {vs:wM} (n:Nat),z6 H L cs vs->z6 H L (cs.drop n) (vs.drop n)
 |_,_,0,h=>by simpa using h
 |[],vs,n+1,h=>by rw[qY h];simp[z6]
 |c::cs,vs,n+1,h=>by
  obtain⟨u,ws,rfl,h1,h2⟩:=zZ h
  simpa using z6.drop n h2
theorem z6.set:∀{cs:wF} {vs:wM},z6 H L cs vs->∀(i:Nat) {c:A} {v:Value},Rel H L c v->z6 H L (cs.set i c) (vs.set i v)
 |[],vs,h,i,c,v,hc=>by rw[qY h];simp[z6]
 |c::cs,vs,h,i,d,v,hd=>by
  obtain⟨u,ws,rfl,h1,h2⟩:=zZ h;cases i with
  |zero=>exact qF hd h2
  |succ i=>exact qF h1 (z6.set h2 i hd)
theorem z6.split:∀{cs ds:wF} {vs:wM},z6 H L (cs++ds) vs->∃us ws,vs=us++ws/\z6 H L cs us/\z6 H L ds ws
 |[],ds,vs,h=>⟨[],vs,rfl,jF,h⟩
 |c::cs,ds,vs,h=>by obtain⟨u,us,rfl,h1,h2⟩:=zZ h;obtain⟨us',ws,rfl,h3,h4⟩:=z6.split h2;exact⟨u::us',ws,rfl,qF h1 h3,h4⟩
end
theorem At.take{b o us}(n:Nat)(h:At H b o us):At H b o (us.take n):=fun i u e=>by
 rw[jBc]at e;split at e
 .exact h i u e
 .cases e
theorem At.drop{b o us}(n:Nat)(h:At H b o us):At H b (o+n) (us.drop n):=fun i u e=>by
 rw[jCq]at e;have:=h _ _ e
 rwa[<-jB9]at this
inductive AObj where
 |dead
 |box (cs:List A)
 |row (fz:Bool) (e:TypeId) (sz n:Nat) (cs:List A)
 |lp (b:Nat) (r:Loop) (N:Nat) (es:List (Nat×A))
 |mp (fresh:Bool) (nk:Nat) (es:List (List Int×A))
 |rsv
 |it (m n:Nat) (met:List Nat)
 deriving Inhabited
def gQ(n:Int):Value:=.int .i64 n
def gK:List Int->Value
 |[n]=>gQ n
 |ks=>.agg (ks.map gQ).toArray
theorem zAT{ks:wC}(h:ks.length≠1):gK ks=.agg (ks.map gQ).toArray:=by
 match ks,h with
 |[],_=>rfl
 |_::_::_,_=>rfl
def aF(H:Mem)(L:wO):List (wC×A)->List MapEntry->Prop
 |[],l=>l=[]
 |p::es,l=>∃e l',l=e::l'/\e.key=gK p.1/\Rel H L p.2 e.val/\aF H L es l'
theorem aF.mono{H H':Mem}{L L':wO}(hh:HLe H H')(hl:LLe L L'):∀{es:List (wC×A)} {l:List MapEntry},aF H L es l->aF H' L' es l
 |[],_,h=>h
 |_::_,_,⟨e,l',h1,h2,h3,h4⟩=>⟨e,l',h1,h2,Rel.mono hh hl _ h3,aF.mono hh hl h4⟩
theorem aF.map{H H':Mem}{L L':wO}(f:A->A):∀{es:List (wC×A)} {l:List MapEntry},(∀p∈es,∀v,Rel H L p.2 v->Rel H' L' (f p.2) v)->aF H L es l->aF H' L' (es.map fun p=>(p.1,f p.2)) l
 |[],_,_,h=>h
 |_::_,_,hf,⟨e,l',h1,h2,h3,h4⟩=>⟨e,l',h1,h2,hf _ (jAp ..) _ h3,aF.map f (fun p hp=>hf p (jAi _ hp)) h4⟩
theorem aF.length{H:Mem}{L:wO}:∀{es:List (wC×A)} {l:List MapEntry},aF H L es l->l.length=es.length
 |[],_,h=>by rw[show _=[] from h];rfl
 |_::_,_,⟨_,l',h1,_,_,h4⟩=>by rw[h1,jAb,jAb,aF.length h4]
theorem aF.get{H:Mem}{L:wO}:∀{es:List (wC×A)} {l:List MapEntry},aF H L es l->∀{i:Nat} {p:wC×A},es[i]?=some p->∃e,l[i]?=some e/\e.key=gK p.1/\Rel H L p.2 e.val
 |[],_,_,i,p,hp=>by simp at hp
 |_::_,_,⟨e,l',h1,h2,h3,h4⟩,0,p,hp=>by simp at hp;subst hp;exact⟨e,by rw[h1];rfl,h2,h3⟩
 |_::_,_,⟨e,l',h1,h2,h3,h4⟩,i+1,p,hp=>by obtain⟨e',g1,g2⟩:=aF.get h4 (i:=i) (p:=p) (by simpa using hp);exact⟨e',by rw[h1];simpa using g1,g2⟩
theorem zEj{nk:Nat}{f:A->A}{es:List (wC×A)}(h:∀p∈es,p.1.length=nk):∀p∈es.map fun p=>(p.1,f p.2),p.1.length=nk:=fun p hp=>by obtain⟨q,hq,rfl⟩:=jAf.1 hp;exact h q hq
def qAw(fresh:Bool)(ents:List MapEntry)(ck:Nat):Prop:=fresh=true->ck=ents.length/\∀(i:Nat) (e:MapEntry),ents[i]?=some e->e.born=i
def sK(H:Mem)(L:wO)(es:List (Nat×A))(tmps:Array Value):Prop:=∀p∈es,Rel H L p.2 (tmps.getD p.1 undef)
variable{es:List (Nat×A)}
theorem sK.mono{tmps:Array Value}(h:sK H L es tmps)(hh:HLe H H')(hl:LLe L L'):sK H' L' es tmps:=fun p hp=>Rel.mono hh hl _ (h p hp)
theorem sK.map{tmps:Array Value}(h:sK H L es tmps)(f:A->A)(hf:∀a v,Rel H L a v->Rel H' L' (f a) v):sK H' L' (es.map fun p=>(p.1,f p.2)) tmps:=by intro p hp;obtain⟨q,hq,rfl⟩:=jAf.1 hp;exact hf _ _ (h q hq)
abbrev St:=List AObj
def zW(H:Mem)(L:wO)(w:World)(l:LI):AObj->Prop
 | .dead=>True
 | .box cs=>l.isRow=false/\∃b,∃vs:wM,∃e,l.block=some b/\w.heap[b]?=some (.cells vs.toArray e (0,0))/\z6 H L cs vs/\(∀u∈vs,one u)/\∀o,H b o=none
 | .row fz e sz n cs=>l.isRow=true/\l.len=n/\cs.length=n*sz/\((l.block=none/\n=0) \/
  ∃b cur,l.block=some b/\w.heap[b]?=some (.cells cur e (0,0))/\n<=l.cap/\l.cap<=maxLen/\cur.size=l.cap*sz/\z6 H L cs (cur.toList.take (n*sz))/\(∀u∈cur.toList.take (n*sz),one u) /\
   match fz with
   |false=>∀o,H b o=none
   |true=>At H b 0 (cur.toList.take (n*sz))/\∀o,n*sz<=o->H b o=none)
 | .lp b r N es=>l.isRow=false/\l.block=some b/\∃tmps:Array Value,w.heap[b]?=some (.loop {r with tmps:=tmps})/\N<=tmps.size/\sK H L es tmps
 | .rsv=>l.block=none/\l.isRow=false
 | .mp fresh nk es=>l.isRow=false/\∃b,∃ents:Array MapEntry,∃ck,l.block=some b/\w.heap[b]?=some (.map ents ck)/\aF H L es ents.toList/\qAw fresh ents.toList ck/\∀p∈es,p.1.length=nk
 | .it m n met=>l.isRow=false/\∃b mb lm,l.block=some b/\L[m]?=some lm/\lm.block=some mb/\lm.isRow=false/\w.heap[b]?=some (.mapIter (some mb) n met.toArray n)
structure RelSt(H:Mem)(L:List LI) (U:St)(w:World):Prop where
 pers:∀b o v,H b o=some v->w.cell? ⟨b,o,none⟩=some v
 len:L.length = U.length
 obj:∀(i:Nat) l o,L[i]?=some l->U[i]?=some o->zW H L w l o
 inj:∀(i j:Nat) l l' b,L[i]?=some l->L[j]?=some l'->l.block=some b->l'.block=some b->i=j
 lt:∀(i:Nat) l b,L[i]?=some l->l.block=some b->b<w.heap.size
structure Step(O:Nat->Prop)(w0:World)(H0:Mem)(w:World)(H:Mem):Prop where
 os:w.os=w0.os
 tape:w.tape=w0.tape
 output:w.output=w0.output
 size:w0.heap.size<=w.heap.size
 keep:∀k,k<w0.heap.size->¬O k->w.heap[k]?=w0.heap[k]?
 hle:HLe H0 H
 hnew:∀b o v,H b o=some v->H0 b o=some v\/O b\/w0.heap.size<=b
 drawn:w0.drawn<=w.drawn
 dfr:∀(k:Nat) d,w0.heap[k]?=some (.deferred d)->w.heap[k]?=some (.deferred d)
theorem Step.refl(O:Nat->Prop)(w:World)(H:Mem):Step O w H w H :=
 ⟨rfl,rfl,rfl,jA _,fun _ _ _=>rfl,HLe.refl H,fun _ _ _ h=>.inl h,jA _,fun _ _ h=>h⟩
def zJD(L:wO)(b:Nat):Prop:=∃(i:Nat) (l:LI),L[i]?=some l/\l.block=some b
structure Inv(O:Nat->Prop)(w0:World)(H0:Mem)(H:Mem)(L:List LI) (U:St)(w:World):Prop where
 st:RelSt H L U w
 step:Step O w0 H0 w H
 own:∀b,zJD L b->O b\/w0.heap.size<=b
theorem Step.trans{O O':Nat->Prop}{w0 w1 w2:World}{H0 H1 H2:Mem}(h:Step O w0 H0 w1 H1)(k:Step O' w1 H1 w2 H2)
 (ho:∀b,O' b->O b\/w0.heap.size<=b):Step O w0 H0 w2 H2:=by
 refine⟨k.os.trans h.os,k.tape.trans h.tape,k.output.trans h.output,jB1 h.size k.size,fun i hi hn=>?_,h.hle.trans k.hle,fun b o v e=>?_,jB1 h.drawn k.drawn,fun i d e=>k.dfr i d (h.dfr i d e)⟩
 .rw[k.keep i (jCe hi h.size) (fun hO=>(ho i hO).elim hn (by omega)),h.keep i hi hn]
 .rcases k.hnew b o v e with h1|h1|h1
  .exact h.hnew b o v h1
  .exact .inr (ho b h1)
  .exact .inr (.inr (jB1 h.size h1))
abbrev Env:=Nat->A
abbrev wK:=Env->St->Prop
def Env.put(env:Env)(d:wD)(a:A):Env:=match d with|none=>env|some d=>fun t=>if t=d then a else env t
def qI(H:Mem)(L:wO)(N:Nat)(env:Env)(tmps:Array Value):Prop:=N<=tmps.size/\∀t,Rel H L (env t) (tmps.getD t undef)
theorem qI.mono{N:Nat}{env:Env}{tmps:Array Value}(h:qI H L N env tmps)(hh:HLe H H')(hl:LLe L L'):qI H' L' N env tmps :=
 ⟨h.1,fun t=>Rel.mono hh hl _ (h.2 t)⟩
theorem qI.put{N:Nat}{env:Env}{a:Act}(h:qI H L N env a.tmps){d:wD}(hd:∀x,d=some x->x<N){r:A}{v:Value}(hr:Rel H L r v) :
 qI H L N (env.put d r) (a.put d v).tmps:=by
 cases d with
 |none=>exact h
 |some d =>
  have hlt:d<a.tmps.size:=jCe (hd d rfl) h.1;refine⟨by simpa[Act.put]using h.1,fun t=>?_⟩;simp only[Env.put,Act.put];by_cases ht:t=d
  .subst ht;simpa[hlt]using hr
  .have:=h.2 t
   simpa[ht,Array.getElem?_setIfInBounds_ne (Ne.symm ht)]using this
end Go.Abs
namespace Go.Abs
inductive SK where
 |b|i|s
 deriving DecidableEq,Inhabited
inductive MOp where
 |mk (nk:Nat)
 |get (nk:Nat) (z:Value) (ok:Bool)
 |set (nk:Nat)
 |del (nk:Nat)
 |rng
 |nxt
 |ent
 |clr (sz:Nat) (zs:List Value)   -- the cells of a row's part are made zero
 |mks (e:TypeId) (sz bytes:Nat) (zs:List Value)   -- a row of zeros
 |cvt (k:IntKind)   -- an integer as one of another kind
 |str   -- bytes as a string
 |boom      -- what is never reached
 deriving Inhabited
inductive KOp where
 |mov (d:Option Nat) (x:Operand)
 |pick (d:Option Nat) (c a b:Operand)
 |alloc (d:Option Nat) (zs:List Value)
 |box (d:Option Nat) (x:Operand)
 |build (d:Option Nat) (zero:List Value) (parts:List (Nat×Nat×Operand))
 |bslice (d:Option Nat) (e:TypeId) (sz n:Nat) (zero:List Value) (parts:List (Nat×Nat×Operand))
 |brow (d:Option Nat) (e:TypeId) (sz n:Nat) (zero:List Value) (parts:List (Nat×Nat×Operand))   -- a 'bslice' as a row that can be written
 |isn (d:Option Nat) (neg:Bool) (x:Operand)   -- a slice against nil
 |isz (d:Option Nat) (neg:Bool) (x:Operand)   -- an 'isn' of a slice that may be nil or empty
 |ld (d:Option Nat) (x:Operand) (n:Nat) (agg:Bool)
 |st (d:Option Nat) (x v:Operand) (n:Nat)
 |addr (d:Option Nat) (x:Operand) (off:Nat)
 |idx (d:Option Nat) (x i:Operand) (sz:Nat)
 |idxarr (d:Option Nat) (x i:Operand) (len sz:Nat)
 |fld (d:Option Nat) (x:Operand) (off n:Nat) (agg:Bool)
 |ix (d:Option Nat) (x i:Operand) (len sz:Nat) (agg:Bool)
 |bin (d:Option Nat) (op:BinOp) (x y:Operand)
 |eqv (d:Option Nat) (neg:Bool) (k:SK) (x y:Operand)
 |eqs (d:Option Nat) (neg:Bool) (ks:List SK) (x y:Operand)
 |neg (d:Option Nat) (x:Operand)
 |not (d:Option Nat) (x:Operand)
 |len (d:Option Nat) (str:Bool) (x:Operand)
 |mm (d:Option Nat) (max:Bool) (xs:List Operand)
 |app (d:Option Nat) (e:TypeId) (sz bytes:Nat) (x y:Operand)
 |slc (d:Option Nat) (x:Operand) (sz:Nat) (lo hi mx:Option Operand)
 |rslc (d:Option Nat) (x:Operand) (sz:Nat) (lo hi:Option Operand)   -- a 'slc' of a row
 |shr (d:Option Nat) (x:Operand) (sz:Nat) (h:Operand)   -- a row's beginning;its rest is let go
 |apq (d:Option Nat) (e:TypeId) (sz bytes:Nat) (x y:Operand)   -- an 'app' to the end of a row,of which a part is named
 |ext (d:Option Nat) (x:Operand) (i:Nat)
 |clo (d:Option Nat) (f:FuncId) (first cap:List Operand)
 |call (d:Option Nat) (f:Operand) (args:List Operand)
 |nilc (d:Option Nat) (x:Operand)
 |alr (d:Option Nat) (q:Nat) (zero:List Value)   -- 'alloc',at a level that is kept for it
 |isp (d:Option Nat) (neg:Bool) (x:Operand)   -- a pointer against nil
 |mki (d:Option Nat) (t:TypeId) (x:Operand)   -- a value as one of an interface
 |pan (d:Option Nat) (x:Operand)   -- a panic
 |mop (d:Option Nat) (m:MOp) (xs:List Operand)
 deriving Inhabited
structure KG where
 guard:Option (Nat×Bool)
 op:KOp
 deriving Inhabited
inductive K where
 |skip
 |seq (a b:K)
 |cond (c:Operand) (a b:K)
 |block (id:Nat) (b:K)
 |loop (b:K)
 |exit (id:Nat)
 |ret
 |ops (l:List KG)
 |dops (l:List (Nat×Nat×KG))   -- an operation's number in the text,its flag,itself
 |rng (f:Operand) (ps:List Nat) (a b:K)
 |wk (b:K)      -- a place where the state may be weakened;no code
 deriving Inhabited
def KOp.erase:KOp->KOp
 | .brow d e sz n zero parts=>.bslice d e sz n zero parts
 | .alr d _ zero=>.alloc d zero
 | .rslc d x sz lo hi=>.slc d x sz lo hi none
 | .shr d x sz h=>.slc d x sz none (some h) none
 | .apq d e sz bytes x y=>.app d e sz bytes x y
 | .isz d ng x=>.isn d ng x
 |k=>k
def KG.erase(g:KG):KG:=⟨g.guard,g.op.erase⟩
def K.erase:K->K
 | .seq a b=>.seq a.erase b.erase
 | .ops l=>.ops (l.map KG.erase)
 | .rng f ps a b=>.rng f ps a.erase b.erase
 | .cond c a b=>.cond c a.erase b.erase
 | .block id b=>.block id b.erase
 | .loop b=>.loop b.erase
 | .wk b=>b.erase
 |k=>k
def KOp.dst:KOp->wD
 | .mov d _ | .pick d _ _ _ | .alloc d _ | .box d _ | .build d _ _ | .bslice d _ _ _ _ _ | .brow d _ _ _ _ _ | .isn d _ _ | .isz d _ _ | .ld d _ _ _ | .st d _ _ _ | .addr d _ _ | .idx d _ _ _ | .idxarr d _ _ _ _
 | .fld d _ _ _ _ | .ix d _ _ _ _ _ | .bin d _ _ _ | .eqv d _ _ _ _ | .eqs d _ _ _ _ | .neg d _ | .not d _ | .len d _ _ | .mm d _ _ | .app d _ _ _ _ _ | .slc d _ _ _ _ _ | .rslc d _ _ _ _ | .shr d _ _ _ | .apq d _ _ _ _ _ | .ext d _ _ | .clo d _ _ _ | .call d _ _ | .nilc d _ | .mop d _ _ | .alr d _ _ | .mki d _ _ | .pan d _ | .isp d _ _=>d
def KOp.reads:KOp->List Operand
 | .mov _ x | .isn _ _ x | .isz _ _ x | .box _ x | .ld _ x _ _ | .addr _ x _ | .fld _ x _ _ _ | .neg _ x | .not _ x | .len _ _ x | .ext _ x _ | .nilc _ x | .mki _ _ x | .pan _ x | .isp _ _ x=>[x]
 | .pick _ a b c=>[a,b,c]
 | .alloc _ _ | .alr _ _ _=>[]
 | .build _ _ ps | .bslice _ _ _ _ _ ps | .brow _ _ _ _ _ ps=>ps.map fun p=>p.2.2
 | .st _ x v _=>[x,v]
 | .idx _ x i _ | .idxarr _ x i _ _ | .ix _ x i _ _ _ | .bin _ _ x i | .eqv _ _ _ x i | .eqs _ _ _ x i | .app _ _ _ _ x i | .apq _ _ _ _ x i=>[x,i]
 | .mm _ _ xs | .mop _ _ xs=>xs
 | .slc _ x _ lo hi mx=>x::(lo.toList++hi.toList++mx.toList)
 | .rslc _ x _ lo hi=>x::(lo.toList++hi.toList++(none:Option Operand).toList)
 | .shr _ x _ h=>[x,h]
 | .clo _ _ first cap=>first++cap
 | .call _ f args=>f::args
def KG.looks(g:KG):wA :=
 (g.op.reads.filterMap fun x=>match x with | .tmp t=>some t|_=>none)++(match g.guard with|some (s,_)=>[s]|none=>[])
def aI(l:wM):Bool:=l.all (·.oneCell')
def zA0:TypeDesc->Bool
 | .struct _ | .array _ _=>true
 |_=>false
def zA(P:Program)(f:FuncId):Bool :=
 match P.funcs[f]? with
 |some fn=>fn.body.isSome&&!(fn.name == "runtime.NumGoroutine")
 |none=>false
def zCm(P:Program)(t:TypeId):Option SK :=
 match P.underlying t with
 |some .bool=>some .b
 |some (.int _)=>some .i
 |some .string=>some .s
 |_=>none
def pL(P:Program):Nat->List Field->Option (List SK)
 |_,[]=>some []
 |o,f::fs=>if f.offset=o/\f.name ≠ "_" then (match zCm P f.type,pL P (o+1) fs with
  |some k,some ks=>some (k::ks)
  |_,_=>none)else none
def zHk(P:Program)(t:TypeId):Option (List SK) :=
 match P.underlying t with
 |some (.struct fs)=>if P.stoodInHeld t||P.eqGuardType P.depth t then none else pL P 0 fs.toList
 |_=>none
def skN(P:Program):Nat->List Field->Option (List SK)
 |_,[]=>some []
 |o,f::fs=>if f.offset=o/\f.name ≠ "_" then (match zCm P f.type with
  |some k=>(skN P (o+1) fs).map fun ks=>k::ks
  |none=>match P.underlying f.type with
   |some (.struct gs)=>if P.stoodInHeld f.type then none else (match pL P 0 gs.toList,P.info? f.type with
    |some ks,some j=>if j.size=ks.length then (skN P (o+ks.length) fs).map fun ks'=>ks++ks' else none
    |_,_=>none)
   |_=>none)else none
def zH1(P:Program)(t:TypeId):Option (List SK) :=
 match P.underlying t with
 |some (.struct fs)=>if P.stoodInHeld t||P.eqGuardType P.depth t then none else skN P 0 fs.toList
 |some (.array n e)=>if P.eqGuardType P.depth t||!((P.info? e).map (·.size)==some 1)then none else (zCm P e).map fun k=>List.replicate n k
 |_=>none
def oV(P:Program)(g:TypeId->wD):Nat->List Field->wD
 |o,[]=>some o
 |o,f::fs=>if f.offset=o/\f.name ≠ "_" then (match g f.type with
  |some n=>if (P.info? f.type).map (·.size)=some n then oV P g (o+n) fs else none
  |none=>none)else none
def lH(P:Program):Nat->TypeId->wD
 | 0,_=>none
 |d+1,t=>match P.underlying t with
  |some (.int .i64)=>some 1
  |some (.struct fs)=>if P.stoodInHeld t then none else oV P (lH P d) 0 fs.toList
  |_=>none
def x9(P:Program)(t:TypeId):wD:=match P.underlying t with
 |some (.struct _)=>match lH P 20 t with
  |some n=>if n=1 then none else some n
  |none=>none
 |some (.int .i64)=>some 1
 |_=>none
def zO5(P:Program)(t:TypeId):wD:=match P.underlying t with
 |some (.map k _)=>x9 P k
 |_=>none
def zEw(P:Program)(t:TypeId)(y:Operand):Bool:=match P.underlying t,y with
 |some (.slice _),.const (.slice none 0 0)=>true
 |_,_=>false
def zNa(P:Program)(t:TypeId)(y:Operand):Bool:=match P.underlying t,y with
 |some (.pointer _),.const (.pointer none)=>true
 |_,_=>false
def eqX(P:Program)(t:TypeId)(d:wD)(neg:Bool)(x y:Operand):Option KOp:=if zNa P t y then some (.isp d neg x)else match zHk P t with
 |some ks=>some (.eqs d neg ks x y)
 |none=>(zH1 P t).map fun ks=>.eqs d neg ks x y
theorem zAC{P:Program}{t:TypeId}{d:wD}{neg:Bool}{x y:Operand}{k:KOp}(h:eqX P t d neg x y=some k):(zNa P t y=true/\k=.isp d neg x)\/∃ks,(zHk P t=some ks\/zH1 P t=some ks)/\k=.eqs d neg ks x y:=by
 unfold eqX at h;split at h
 .rename_i hp;cases h;exact .inl ⟨hp,rfl⟩
 .split at h
  .rename_i ks hk;cases h;exact .inr ⟨ks,.inl hk,rfl⟩
  .simp only[jAe]at h;obtain⟨ks,h1,rfl⟩:=h;exact .inr ⟨ks,.inr h1,rfl⟩
def mE(place:Nat->Option (Nat×Nat))(parts:List (Nat×Operand)):Option (List (Nat×Nat×Operand)) :=
 parts.mapM fun(i,x)=>(place i).map fun(off,size)=>(off,size,x)
def nX(P:Program)(fs:List Field)(i:Nat):Option (Nat×Nat) :=
 match fs[i]? with
 |some f=>match P.info? f.type with
  |some j=>some (f.offset,j.size)
  |none=>none
 |none=>none
def aT(P:Program)(o:Oper):Option KOp :=
 match o.op with
 | .move x=>some (.mov o.dst x)
 | .assign x=>some (.mov o.dst x)
 | .pick c a b=>some (.pick o.dst c a b)
 | .alloc e=>do
  let z <-(<-P.info? e).zero
  if aI z.cells.toList then some (.alloc o.dst z.cells.toList)else none
 | .box _ x=>some (.box o.dst x)
 | .load t x=>do
  let u <-P.underlying t;let i <-P.info? t
  some (.ld o.dst x i.size (zA0 u))
 | .store t a x=>do
  let i <-P.info? t
  some (.st o.dst a x i.size)
 | .fieldAddr s x f =>
  match P.underlying s with
  |some (.struct fs)=>do
   let g <-fs[f]?;let i <-P.info? g.type
   if i.size=0 then none else some (.addr o.dst x g.offset)
  |_=>none
 | .indexAddr t x i =>
  match P.underlying t with
  |some (.slice e)=>do some (.idx o.dst x i (<-P.info? e).size)
  |some (.array n e)=>do some (.idxarr o.dst x i n (<-P.info? e).size)
  |_=>none
 | .field t x f =>
  match P.underlying t with
  |some (.struct fs)=>do
   let g <-fs[f]?;let u <-P.underlying g.type;let i <-P.info? g.type
   some (.fld o.dst x g.offset i.size (zA0 u))
  |_=>none
 | .index t x i =>
  match P.underlying t with
  |some (.array n e)=>do
   let u <-P.underlying e;let j <-P.info? e
   some (.ix o.dst x i n j.size (zA0 u))
  |_=>none
 | .binOp op t x y _ =>
  match op with
  | .add | .sub | .mul | .quo | .rem | .lss | .leq | .gtr | .geq=>some (.bin o.dst op x y)
  | .eql=>match zCm P t with
   |some k=>some (.eqv o.dst false k x y)
   |none=>if zEw P t y then some (.isn o.dst false x)else eqX P t o.dst false x y
  | .neq=>match zCm P t with
   |some k=>some (.eqv o.dst true k x y)
   |none=>if zEw P t y then some (.isn o.dst true x)else eqX P t o.dst true x y
  |_=>none
 | .unOp op _ x =>
  match op with
  | .neg=>some (.neg o.dst x)
  | .not=>some (.not o.dst x)
  |_=>none
 | .extract t i=>some (.ext o.dst t i)
 | .makeFunc (.func f) first cap=>some (.clo o.dst f first.toList cap.toList)
 | .slice t x lo hi mx =>
  match P.underlying t with
  |some (.slice e)=>do some (.slc o.dst x (<-P.info? e).size lo hi mx)
  |_=>none
 | .build t parts =>
  match P.underlying t with
  |some (.struct fs)=>do
   let z <-(<-P.info? t).zero
   if aI z.cells.toList&&fs.all (fun f=>(P.info? f.type).isSome)then some (.build o.dst z.cells.toList (<-mE (nX P fs.toList) parts.toList))else none
  |some (.array _ e)=>do
   let z <-(<-P.info? t).zero;let j <-P.info? e
   if aI z.cells.toList then some (.build o.dst z.cells.toList (<-mE (fun i=>some (i*j.size,j.size)) parts.toList))else none
  |_=>none
 | .buildSlice t len parts =>
  match P.underlying t with
  |some (.slice e)=>do
   let j <-P.info? e;let z <-j.zero
   if len*j.size<=4096&&0<j.size&&aI z.cells.toList&&z.cells.size==j.size then
    some (.bslice o.dst e j.size len ((List.replicate len z.cells.toList).flatten) (<-mE (fun i=>some (i*j.size,j.size)) parts.toList))else none
  |_=>none
 | .call c =>
  match c.callee with
  | .value f =>
   match f with
   | .func g=>if zA P g then some (.call o.dst f c.args.toList)else none
   | .tmp _=>some (.call o.dst f c.args.toList)
   |_=>none
  | .builtin .len =>
   match c.args.toList,c.argTypes[0]? with
   |[x],some t =>
    match P.underlying t with
    |some (.slice _)=>some (.len o.dst false x)
    |some .string=>some (.len o.dst true x)
    |_=>none
   |_,_=>none
  | .builtin .delete =>
   match c.args.toList,c.argTypes[0]? with
   |[x,y],some t=>(zO5 P t).map fun nk=>.mop o.dst (.del nk) [x,y]
   |_,_=>none
  | .builtin .clear =>
   match c.args.toList,c.argTypes[0]? with
   |[x],some t =>
    match P.underlying t with
    |some (.slice e)=>do
     let j <-P.info? e;let z <-j.zero
     if aI z.cells.toList&&z.cells.size==j.size&&0<j.size then some (.mop o.dst (.clr j.size z.cells.toList) [x])else none
    |_=>none
   |_,_=>none
  | .builtin .max=>some (.mm o.dst true c.args.toList)
  | .builtin .min=>some (.mm o.dst false c.args.toList)
  | .builtin .append =>
   match c.args.toList,c.argTypes.toList with
   |[x,y],[t,t'] =>
    if t=t' then
     match P.underlying t with
     |some (.slice e)=>do
      let j <-P.info? e;let z <-j.zero
      if aI z.cells.toList&&z.cells.size==j.size&&0<j.size then some (.app o.dst e j.size j.bytes x y)else none
     |_=>none
    else none
   |_,_=>none
  |_=>none
 | .nilCheck x=>some (.nilc o.dst x)
 | .makeMap t none=>(zO5 P t).map fun nk=>.mop o.dst (.mk nk) []
 | .lookup t x k ok =>
  match P.underlying t with
  |some (.map kt e)=>do
   let nk <-x9 P kt;let j <-P.info? e
   some (.mop o.dst (.get nk (<-j.zero) ok) [x,k])
  |_=>none
 | .mapUpdate t m k v=>(zO5 P t).map fun nk=>.mop o.dst (.set nk) [m,k,v]
 | .range t x =>
  match P.underlying t with
  |some (.map _ _)=>some (.mop o.dst .rng [x])
  |_=>none
 | .next x false=>some (.mop o.dst .nxt [x])
 | .entry x=>some (.mop o.dst .ent [x])
 | .makeInterface t x =>
  match P.underlying t with
  |some u=>match u with
   | .interface _=>none
   |_=>some (.mki o.dst t x)
  |none=>none
 | .panic x=>some (.pan o.dst x)
 | .makeSlice t x y =>
  match P.underlying t with
  |some (.slice e)=>do
   let j <-P.info? e;let z <-j.zero
   if aI z.cells.toList&&z.cells.size==j.size&&0<j.size then some (.mop o.dst (.mks e j.size j.bytes z.cells.toList) [x,y])else none
  |_=>none
 | .convert s d x =>
  match P.underlying d with
  |some (.int k)=>if (P.underlying s).isSome then some (.mop o.dst (.cvt k) [x])else none
  |some .string =>
   match P.underlying s with
   |some (.slice e)=>match P.underlying e with
    |some (.int .u8)=>some (.mop o.dst .str [x])
    |_=>none
   |_=>none
  |_=>none
 | .insert t m k v=>(zO5 P t).map fun nk=>.mop o.dst (.set nk) [m,k,v]
 |_=>none
def zUP(N:Nat)(o:Oper):Bool:=match o.dst with|some d=>decide (d<N)|none=>true
def mS(P:Program)(N:Nat)(ops:Array Oper)(o:Oper):Option KG :=
 match aT P o with
 |none=>none
 |some k =>
  if zUP N o then
   match o.guard with
   |none=>some ⟨none,k⟩
   |some (j,want) =>
    match (ops[j]?).bind (·.dst)with
    |some s=>some ⟨some (s,want),k⟩
    |none=>none
  else none
def gM(P:Program)(N:Nat)(ops:Array Oper):List Oper->Option (List KG)
 |[]=>some []
 |o::rest=>match mS P N ops o,gM P N ops rest with
  |some g,some r=>some (g::r)
  |_,_=>none
def KOp.isCall:KOp->Bool
 | .call ..=>true
 |_=>false
def KOp.lite:KOp->Bool
 | .mov .. | .pick .. | .build .. | .bslice .. | .idxarr .. | .fld .. | .ix .. | .bin .. | .eqv .. | .eqs .. | .neg .. | .not .. | .len _ true _ | .mm .. | .slc .. | .ext .. | .clo .. | .isn .. | .nilc .. | .mki .. | .isp ..=>true
 |_=>false
def KOp.grows:KOp->Bool
 | .alloc .. | .box .. | .app .. | .brow .. | .alr ..=>true
 |_=>false
def KOp.keeps:KOp->Bool
 | .alloc .. | .box .. | .app .. | .st .. | .brow .. | .mop .. | .alr .. | .isz .. | .pan .. | .shr .. | .apq ..=>false
 |_=>true
def bK(f:Nat)(k:KOp):Bool:=k.lite||(f==2&&k.keeps&&!k.isCall)
def oI(f:Nat)(k:KOp):Bool:=k.grows||((f==3||f==7||f==8)&&k.isCall)
def j4(f:Nat)(k:KOp):Bool:=k.keeps&&!(k.isCall&&Nat.ble 3 f)
def nT(ops:Array Oper)(i j:Nat):Bool:=match ops[j]? with
 |some o=>o.after.any fun e=>Region.binds .any e&&e.on==i
 |none=>false
def sP(ops:Array Oper)(i:Nat):List Nat->List Nat->wA
 |[],acc=>acc
 |j::l,acc=>sP ops i l (match ops[j]? with
  |some o=>if o.after.any (fun e=>Region.binds .any e&&(e.on==i||acc.contains e.on))then j::acc else acc
  |none=>acc)
def xB(ops:Array Oper)(i:Nat):wA:=sP ops i (List.range ops.size) []
def zNh(fi fj:Nat)(gi gj:KG):Bool:=fi==fj+1000&&Nat.ble 1000 fj&&Nat.blt fj 2000&&gj.guard.isNone&&(match gi.op,gj.op with
 | .ld ..,.st ..=>true
 | .ld ..,.call ..=>gi.guard.isNone
 |_,_=>false)
def zTH(fi fj:Nat)(gi gj:KG):Bool:=fi==fj+1000&&Nat.ble 3000 fj&&Nat.blt fj 4000&&gi.guard.isNone&&gj.guard.isNone&&(match gi.op,gj.op with
 | .ld ..,.call ..=>true
 | .idx ..,.call ..=>true
 | .addr ..,.call ..=>true
 |_,_=>false)
def zJY(fi fj:Nat)(gi gj:KG):Bool:=zNh fi fj gi gj||zTH fi fj gi gj
def zKb(gi gj:KG):Bool:=gi.guard.isNone&&gj.guard.isNone&&(match gi.op,gj.op with
 | .alr _ q _,.alr _ q' _=>q != q'
 |_,_=>false)
def zNi(fi:Nat)(gi gj:KG):Bool:=(fi==7||fi==11)&&gi.guard.isNone&&gj.guard.isNone&&(match gi.op,gj.op with
 | .call ..,.alr ..=>true
 |_,_=>false)
def zTG(gi gj:KG):Bool:=gi.guard.isNone&&gj.guard.isNone&&(match gi.op,gj.op with
 | .len _ false _,.alr ..=>true
 | .idx ..,.alr ..=>true
 | .ld ..,.alr ..=>true
 | .addr ..,.alr ..=>true
 |_,_=>false)
def zJZ(fi:Nat)(gi gj:KG):Bool:=zNi fi gi gj||zTG gi gj
def zKa(fi fj:Nat)(gi gj:KG):Bool:=fi==6&&fj==5&&gi.guard.isNone&&gj.guard.isNone&&(match gi.op,gj.op with
 | .st ..,.st ..=>true
 | .idx ..,.st ..=>true
 |_,_=>false)
def rN(fi fj:Nat)(ki kj:KOp):Bool:=bK fj kj||(j4 fi ki&&(bK fi ki||j4 fj kj||(fi==1&&oI fj kj)))
def zWT(ops:Array Oper)(gs:List KG)(k:Nat)(g:KG):Nat :=
 if g.op.keeps&&!g.op.lite&&(List.range ops.size).any fun j=>Nat.blt k j&&(match gs[j]? with
  |some h=>h.op.grows&&!nT ops k j&&!(xB ops k).contains j
  |none=>false)then 1 else 0
def zAM(ops:Array Oper)(gs:List KG):Nat->List KG->List (Nat×Nat×KG)
 |_,[]=>[]
 |k,g::l=>(k,zWT ops gs k g,g)::zAM ops gs (k+1) l
def zE2:Nat->List KG->List (Nat×Nat×KG)
 |_,[]=>[]
 |k,g::l=>(k,0,g)::zE2 (k+1) l
def zHj(ops:Array Oper)(gs:List KG):List (Nat×Nat×KG):=if gs.any (·.op.grows)then zAM ops gs 0 gs else zE2 0 gs
def zPR(f:Nat)(g:KG):KG:=match g.op with
 | .alloc d zs=>if Nat.ble 300 f&&Nat.blt f 1000 then ⟨g.guard,.alr d (f-300) zs⟩ else g
 | .bslice d e sz n zero parts=>if f==9 then ⟨g.guard,.brow d e sz n zero parts⟩ else g
 |_=>g
def zJB(gs:List KG):List (Nat×Nat)->Option (List (Nat×Nat×KG))
 |[]=>some []
 |(k,f)::l=>match gs[k]?,zJB gs l with
  |some g,some r=>some ((k,f,zPR f g)::r)
  |_,_=>none
def zRv(ops:Array Oper)(listed:Array Bool)(B:wA)(k f:Nat)(o:Oper)(g:KG)(x:Nat×Nat×KG):Bool :=
 x.1==k||listed.getD x.1 true||nT ops k x.1||(match ops[x.1]? with
  |some p=>o.apart ops p&&(rN f x.2.1 g.op x.2.2.op||(zKa f x.2.1 g x.2.2||(zJY f x.2.1 g x.2.2||(zKb g x.2.2||zJZ f g x.2.2))))
  |_=>false)||B.contains x.1
def zBq(ops:Array Oper)(all:List (Nat×Nat×KG))(listed:Array Bool)(B:wA)(k f:Nat)(g:KG):Bool:=B.all (fun j=>!listed.getD j true)&&match ops[k]? with
 |some o=>all.all fun x=>zRv ops listed B k f o g x
 |_=>false
def zRF(ops:Array Oper)(all:List (Nat×Nat×KG))(listed:Array Bool)(k f:Nat)(g:KG):Bool:=zBq ops all listed [] k f g||zBq ops all listed (xB ops k) k f g
def zDM(ops:Array Oper)(all:List (Nat×Nat×KG)):List (Nat×Nat×KG)->Array Bool->Bool
 |[],listed=>(Region.ready .any ops listed).isEmpty
 |(k,f,g)::l,listed=>(Region.ready .any ops listed).contains k&&(if f==8||f==10 then g.guard.isNone&&g.op.isCall&&Region.ready .any ops listed==[k]else zRF ops all listed k f g)&&zDM ops all l (listed.setIfInBounds k true)
def zKV(ops:Array Oper)(l:List (Nat×Nat×KG)):Bool:=zDM ops l l (Array.replicate ops.size false)&&l.length==ops.size&&(List.range ops.size).all fun j=>l.any fun x=>x.1==j
def rM(ops:Array Oper):List Oper->List KG->Bool
 |[],[]=>true
 |o::os,g::gs=>g.looks.all (fun t=>(o.looksAt ops).contains t)&&rM ops os gs
 |_,_=>false
def K.noRng:K->Bool
 | .seq a b | .cond _ a b=>a.noRng&&b.noRng
 | .block _ b | .loop b | .wk b=>b.noRng
 | .rng ..=>false
 |_=>true
def qL(P:Program)(N:Nat)(hint:Nat->Option wE):Code->Option K
 | .skip=>some .skip
 | .seq a b=>match qL P N hint a,qL P N hint b with
  |some x,some y=>some (.seq x y)
  |_,_=>none
 | .cond c a b=>match qL P N hint a,qL P N hint b with
  |some x,some y=>some (.cond c x y)
  |_,_=>none
 | .block id b=>(qL P N hint b).map (.block id)
 | .loop b=>(qL P N hint b).map .loop
 | .exit id=>some (.exit id)
 | .ret=>some .ret
 | .region id ops draw =>
  match gM P N ops ops.toList with
  |some l=>if draw then (match (match hint id with|some h=>zJB l h|none=>some (zHj ops l))with
   |some r=>if zKV ops r&&P.follows .mixedOrders&&rM ops ops.toList l then some (.dops r)else none
   |none=>none)else some (.ops l)
  |none=>none
 | .rangeFunc f ps a b=>match qL P N hint a,qL P N hint b with
  |some x,some y=>if x.noRng&&y.noRng&&ps.all (fun p=>Nat.blt p N)then some (.rng f ps.toList x y)else none
  |_,_=>none
 |_=>none
def zL9:Nat->Option wE:=fun _=>none
abbrev zK(P:Program)(N:Nat)(c:Code):Option K:=qL P N zL9 c
section
variable(a b c n g:Nat)(i:Int)
@[simp]def M:KG:=⟨none,.mov (some a) (.tmp b)⟩
@[simp]def kMi:KG:=⟨none,.mov (some a) (.const (.int .i64 i))⟩
@[simp]def kMb(t:Bool):KG:=⟨none,.mov (some a) (.const (.bool t))⟩
@[simp]def kMn:KG:=⟨none,.mov (some a) (.const (.slice none 0 0))⟩
@[simp]def D:KG:=⟨none,.addr (some a) (.tmp b) n⟩
@[simp]def L:KG:=⟨none,.ld (some a) (.tmp b) n false⟩
@[simp]def J:KG:=⟨none,.ld (some a) (.tmp b) n true⟩
@[simp]def S:KG:=⟨none,.st none (.tmp a) (.tmp b) n⟩
@[simp]def kX:KG:=⟨none,.idx (some a) (.tmp b) (.tmp c) n⟩
@[simp]def kXi:KG:=⟨none,.idx (some a) (.tmp b) (.const (.int .i64 i)) n⟩
@[simp]def kB(o:BinOp):KG:=⟨none,.bin (some a) o (.tmp b) (.tmp c)⟩
@[simp]def kBi(o:BinOp):KG:=⟨none,.bin (some a) o (.tmp b) (.const (.int .i64 i))⟩
@[simp]def kQ(t:Bool):KG:=⟨none,.eqv (some a) t .i (.tmp b) (.tmp c)⟩
@[simp]def kQi(t:Bool):KG:=⟨none,.eqv (some a) t .i (.tmp b) (.const (.int .i64 i))⟩
@[simp]def kPf:KG:=⟨none,.pick (some a) (.tmp b) (.tmp c) (.const (.bool false))⟩
@[simp]def kPt:KG:=⟨none,.pick (some a) (.tmp b) (.const (.bool true)) (.tmp c)⟩
@[simp]def kN:KG:=⟨none,.len (some a) false (.tmp b)⟩
@[simp]def kC(f:FuncId)(l:List Operand):KG:=⟨none,.call (some a) (.func f) l⟩
@[simp]def kO:KG:=⟨none,.box (some a) (.tmp b)⟩
@[simp]def kP(e:TypeId)(s y p q:Nat):KG:=⟨none,.app (some a) e s y (.tmp p) (.tmp q)⟩
@[simp]def kE:KG:=⟨none,.ext (some a) (.tmp b) n⟩
@[simp]def kR:KG:=⟨none,.not (some a) (.tmp b)⟩
@[simp]def kU:KG:=⟨none,.nilc (some a) (.tmp b)⟩
@[simp]def kZ(l:wM):KG:=⟨none,.alloc (some a) l⟩
@[simp]def T(t:Bool)(k:KG):KG:=⟨some (g,t),k.op⟩
end
@[simp]def G(l:List KG)(k:K):K:=.seq (.ops l) k
@[simp]def Z(k j:K):K:=.seq k j
@[simp]def Y(n:Nat)(k j:K):K:=.cond (.tmp n) k j
@[simp]def ks:K:=.skip
@[simp]def kr:K:=.ret
@[simp]def ki:Value:=.int .i64 0
@[simp]def kl:Value:=.slice none 0 0
@[simp]def kt(n:Nat):Operand:=.tmp n
@[simp]def kc(n:Int):Operand:=.const (.int .i64 n)
@[simp]def kb(n:Nat)(l:wM)(m:List (Nat×Nat×Operand)):KG:=⟨none,.build (some n) l m⟩
@[simp]def kd(n a b c:Nat)(l:wM)(m:List (Nat×Nat×Operand)):KG:=⟨none,.bslice (some n) a b c l m⟩
@[simp]def kz0:wM:=[(.int .i64 0),(.int .i64 0),(.int .i64 0),(.int .i64 0),(.int .i64 0),(.int .i64 0),(.int .i64 0),(.string ⟨#[]⟩),(.slice none 0 0),(.int .i64 0),(.int .i64 0),(.int .i64 0),(.int .i64 0),(.slice none 0 0),(.int .i64 0),(.int .i64 0),(.int .i64 0),(.int .i64 0),(.int .i64 0),(.int .i64 0),(.int .i64 0),(.int .i64 0),(.int .i64 0),(.int .i64 0),(.int .i64 0),(.int .i64 0),(.slice none 0 0),(.slice none 0 0),(.slice none 0 0),(.int .i64 0),(.slice none 0 0)]
@[simp]def kz1:wM:=[(.int .i64 0),(.int .i64 0),(.int .i64 0),(.int .i64 0),(.int .i64 0),(.int .i64 0),(.int .i64 0),(.int .i64 0),(.int .i64 0),(.int .i64 0),(.int .i64 0),(.int .i64 0),(.slice none 0 0),(.slice none 0 0),(.slice none 0 0)]
@[simp]def kz2:wM:=[(.int .i64 0),(.int .i64 0),(.int .i64 0),(.int .i64 0),(.slice none 0 0)]
@[simp]def kz3:wM:=[(.int .i64 0),(.string ⟨#[]⟩),(.slice none 0 0),(.slice none 0 0),(.slice none 0 0),(.int .i64 0),(.int .i64 0),(.int .i64 0),(.int .i64 0),(.slice none 0 0),(.int .i64 0)]
@[simp]def kz4:wM:=[(.int .i64 0),(.int .i64 0),(.int .i64 0),(.int .i64 0),(.int .i64 0),(.int .i64 0),(.int .i64 0),(.int .i64 0),(.int .i64 0),(.int .i64 0),(.int .i64 0),(.int .i64 0),(.slice none 0 0),(.slice none 0 0),(.slice none 0 0),(.int .i64 0),(.int .i64 0),(.int .i64 0),(.int .i64 0),(.int .i64 0),(.int .i64 0),(.int .i64 0),(.int .i64 0),(.int .i64 0),(.int .i64 0),(.int .i64 0),(.int .i64 0),(.slice none 0 0),(.slice none 0 0),(.slice none 0 0),(.int .i64 0),(.int .i64 0),(.int .i64 0),(.int .i64 0),(.int .i64 0),(.int .i64 0),(.int .i64 0),(.int .i64 0),(.int .i64 0),(.int .i64 0),(.int .i64 0),(.int .i64 0),(.slice none 0 0),(.slice none 0 0),(.slice none 0 0)]
@[simp]def kz5:wM:=[(.int .i64 0),(.int .i64 0),(.int .i64 0),(.string ⟨#[]⟩),(.int .i64 0),(.int .i64 0),(.int .i64 0),(.int .i64 0),(.slice none 0 0),(.int .i64 0),(.int .i64 0)]
@[simp]def kz6:wM:=[(.int .i64 0),(.int .i64 0),(.int .i64 0),(.int .i64 0),(.int .i64 0),(.int .i64 0),(.int .i64 0),(.int .i64 0),(.int .i64 0),(.int .i64 0),(.int .i64 0),(.int .i64 0),(.slice none 0 0),(.slice none 0 0),(.slice none 0 0),(.int .i64 0),(.int .i64 0),(.int .i64 0),(.int .i64 0),(.int .i64 0),(.int .i64 0),(.int .i64 0),(.int .i64 0),(.int .i64 0),(.int .i64 0),(.int .i64 0),(.int .i64 0),(.slice none 0 0),(.slice none 0 0),(.slice none 0 0)]
@[simp]def kz7:wM:=[(.int .i64 0),(.int .i64 0),(.int .i64 0),(.int .i64 0),(.int .i64 0),(.int .i64 0),(.int .i64 0),(.int .i64 0),(.slice none 0 0)]
@[simp]def kz8:wM:=[(.int .i64 0),(.int .i64 0),(.int .i64 0),(.int .i64 0),(.int .i64 0),(.int .i64 0),(.int .i64 0),(.string ⟨#[]⟩),(.slice none 0 0),(.int .i64 0),(.int .i64 0),(.int .i64 0),(.int .i64 0),(.slice none 0 0),(.int .i64 0),(.int .i64 0),(.int .i64 0),(.int .i64 0),(.int .i64 0),(.int .i64 0),(.int .i64 0),(.int .i64 0),(.int .i64 0),(.int .i64 0),(.int .i64 0),(.int .i64 0),(.slice none 0 0),(.slice none 0 0),(.slice none 0 0),(.int .i64 0),(.slice none 0 0),(.int .i64 0),(.int .i64 0),(.int .i64 0),(.int .i64 0),(.int .i64 0),(.int .i64 0),(.int .i64 0),(.string ⟨#[]⟩),(.slice none 0 0),(.int .i64 0),(.int .i64 0),(.int .i64 0),(.int .i64 0),(.slice none 0 0),(.int .i64 0),(.int .i64 0),(.int .i64 0),(.int .i64 0),(.int .i64 0),(.int .i64 0),(.int .i64 0),(.int .i64 0),(.int .i64 0),(.int .i64 0),(.int .i64 0),(.int .i64 0),(.slice none 0 0),(.slice none 0 0),(.slice none 0 0),(.int .i64 0),(.slice none 0 0)]
@[simp]def kz9:wM:=[(.int .i64 0),(.int .i64 0),(.int .i64 0),(.string ⟨#[]⟩),(.slice none 0 0),(.slice none 0 0)]
@[simp]def zLr:wM:=[(.int .i64 0),(.int .i64 0),(.int .i64 0),(.int .i64 0)]
@[simp]def qKX:wM:=[(.int .i64 0),(.int .i64 0),(.int .i64 0),(.int .i64 0),(.slice none 0 0),(.int .i64 0),(.int .i64 0),(.int .i64 0),(.int .i64 0),(.slice none 0 0),(.int .i64 0),(.int .i64 0),(.int .i64 0),(.int .i64 0),(.slice none 0 0),(.int .i64 0),(.int .i64 0),(.int .i64 0),(.int .i64 0),(.slice none 0 0),(.int .i64 0),(.int .i64 0),(.int .i64 0),(.int .i64 0),(.slice none 0 0),(.int .i64 0),(.int .i64 0),(.int .i64 0),(.int .i64 0),(.slice none 0 0)]
@[simp]def zQU:wM:=[(.string ⟨#[]⟩),(.string ⟨#[]⟩),(.string ⟨#[]⟩)]
@[simp]def qKY:wM:=[(.int .i64 0),(.int .i64 0),(.int .i64 0),(.int .i64 0),(.slice none 0 0),(.int .i64 0),(.int .i64 0),(.int .i64 0),(.int .i64 0),(.slice none 0 0),(.int .i64 0),(.int .i64 0),(.int .i64 0),(.int .i64 0),(.slice none 0 0)]
def q9:Value->A
 | .slice none 0 0=>.nil
 |v=>.lit v
def u9:Value->A
 | .agg cs=>if aI cs.toList then .agg (cs.toList.map q9)else .any
 |v=>q9 v
def ev(env:Env):Operand->A
 | .tmp t=>env t
 | .const v=>u9 v
 | .global g=>match zMG.lookup g with
  |some vs=>if vs.all (·.oneCell')then .rptr (vs.map zH7)else .any
  |none=>.any
 | .func f=>.clo f [] []
def cellsOf:A->Option wF
 | .any | .tup _=>none
 | .agg cs=>some cs
 | .lit v=>if v.oneCell' then some [.lit v]else none
 |a=>some [a]
def sub(cs:wF)(off n:Nat):Option wF:=if off+n<=cs.length then some ((cs.drop off).take n)else none
def ldA(U:St)(n:Nat):A->Option wF
 | .rptr cs=>sub cs 0 n
 | .ptr l off=>match U[l]? with
  |some (.box cs)=>sub cs off n
  |_=>none
 | .rwp l m off=>match U[l]? with
  |some (.row _ _ _ k cs)=>if m=k then sub cs off n else none
  |_=>none
 |_=>none
def fH(agg:Bool)(cs:wF):Option A :=
 match agg,cs with
 |true,cs=>some (.agg cs)
 |false,[c]=>some c
 |_,_=>none
def eD:List A->List (Nat×Nat×A)->Option wF
 |cs,[]=>some cs
 |cs,(off,size,a)::rest =>
  match cellsOf a with
  |some l=>if l.length=size/\off+size<=cs.length then eD (cs.take off++l++cs.drop (off+size)) rest else none
  |none=>none
def eM:SK->A->A->Option Prop
 | .i,.lit (.int k a),.lit (.int k' b)=>if k=k' then some (a=b)else none
 | .b,.lit (.bool a),.lit (.bool b)=>some (a=b)
 | .s,.lit (.string a),.lit (.string b)=>some (a=b)
 |_,_,_=>none
def yE:List SK->List A->List A->Option Prop
 |[],[],[]=>some True
 |k::ks,x::xs,y::ys=>match eM k x y,yE ks xs ys with
  |some p,some q=>some (p/\q)
  |_,_=>none
 |_,_,_=>none
def oU(op:BinOp)(k:IntKind)(a b:Int):Option (Prop×A) :=
 match op with
 | .add=>some (True,.lit (.int k (k.wrap (a+b))))
 | .sub=>some (True,.lit (.int k (k.wrap (a-b))))
 | .mul=>some (True,.lit (.int k (k.wrap (a*b))))
 | .quo=>some (b≠0,.lit (.int k (k.wrap (a.tdiv b))))
 | .rem=>some (b≠0,.lit (.int k (a.tmod b)))
 | .lss=>some (True,.lit (.bool (decide (a<b))))
 | .leq=>some (True,.lit (.bool (decide (a<=b))))
 | .gtr=>some (True,.lit (.bool (decide (b<a))))
 | .geq=>some (True,.lit (.bool (decide (b<=a))))
 |_=>none
def vV:List A->Option wC
 |[]=>some []
 | .lit (.int .i64 n)::l=>(vV l).map (n::·)
 |_=>none
def tT:List A->Option wC
 |[]=>some []
 | .lit (.int .u8 n)::l=>(tT l).map (n::·)
 |_=>none
def x8(nk:Nat):A->Option wC
 | .agg cs=>match vV cs with
  |some ks=>if ks.length=nk/\nk≠1 then some ks else none
  |none=>none
 | .lit (.int .i64 n)=>if nk=1 then some [n]else none
 |_=>none
def zAS:List Int->A
 |[n]=>.lit (.int .i64 n)
 |ks=>.agg (ks.map fun n=>.lit (.int .i64 n))
def bP(ks:wC):List (wC×A)->Option A
 |[]=>none
 |p::es=>if p.1=ks then some p.2 else bP ks es
def mG(ks:wC)(v:A):List (wC×A)->List (wC×A)
 |[]=>[(ks,v)]
 |p::es=>if p.1=ks then (ks,v)::es else p::mG ks v es
def zBF(ks:wC):List (wC×A)->List (wC×A)
 |[]=>[]
 |p::es=>if p.1=ks then es else p::zBF ks es
def tJ(z:Value)(ok:Bool)(r:Option A):A:=if ok then .tup [r.getD (u9 z),.lit (.bool r.isSome)]else r.getD (u9 z)
def dF(m:MOp)(xs:wF)(K:A->St->Prop) (U:St):Prop:=match m,xs with
 | .mk nk,[]=>K (.map U.length) (U++[.mp true nk []])
 | .get nk z ok,[.map l,k]=>(match x8 nk k,U[l]? with
  |some ks,some (.mp _ nk' es)=>nk'=nk/\K (tJ z ok (bP ks es)) U
  |_,_=>False)
 | .set nk,[.map l,k,v]=>(match x8 nk k,U[l]? with
  |some ks,some (.mp fr nk' es)=>nk'=nk/\K (.lit undef) (U.set l (.mp fr nk (mG ks v es)))
  |_,_=>False)
 | .del nk,[.map l,k]=>(match x8 nk k,U[l]? with
  |some ks,some (.mp _ nk' es)=>nk'=nk/\K (.tup []) (U.set l (.mp false nk (zBF ks es)))
  |_,_=>False)
 | .rng,[.map l]=>(match U[l]? with
  |some (.mp true _ es)=>K (.ptr U.length 0) (U++[.it l es.length []])
  |_=>False)
 | .nxt,[.ptr j 0]=>(match U[j]? with
  |some (.it l n met)=>(match U[l]? with
   |some (.mp true _ es)=>n=es.length/\(∀(i:Nat) (p:wC×A),i∉met->es[i]?=some p->K (.tup [.lit (.bool true),zAS p.1,p.2]) (U.set j (.it l n (met++[i])))) /\
    ((∀i,i<n->i∈met)->K (.tup [.lit (.bool false)]) U)
   |_=>False)
  |_=>False)
 | .clr sz zs,[.win l n o k c]=>(match U[l]? with
  |some (.row fz e s m cs)=>(n=m/\s=sz/\fz=false/\o+k*sz<=cs.length)/\K (.tup []) (U.set l (.row false e sz n (cs.take o++(List.replicate k (zs.map q9)).flatten++cs.drop (o+k*sz))))
  |_=>False)
 | .mks e sz bytes zs,[.lit (.int _ n),.lit (.int _ c)]=>(0<=n/\c=n/\n<=1000000000000/\bytes*n.toNat<=281474976710656)/\K (.row U.length n.toNat) (U++[.row false e sz n.toNat ((List.replicate n.toNat (zs.map q9)).flatten)])
 | .cvt k,[.lit (.int _ n)]=>K (.lit (.int k (k.wrap n))) U
 | .str,[.sl n cs]=>(match tT cs with
  |some xs=>(xs.length=n/\n≠0)/\K (.lit (.string (strOfNums xs))) U
  |none=>False)
 | .str,[.fsl n cs]=>(match tT cs with
  |some xs=>(xs.length=n/\n≠0)/\K (.lit (.string (strOfNums xs))) U
  |none=>False)
 | .ent,[.ptr j 0]=>(match U[j]? with
  |some (.it l n met)=>(match U[l]?,met.getLast? with
   |some (.mp true _ es),some i=>n=es.length/\(match es[i]? with
    |some p=>K (.tup [zAS p.1,p.2]) U
    |none=>False)
   |_,_=>False)
  |_=>False)
 |_,_=>False
def zO7(m:MOp)(xs:wF) (U:St):Option (A×St):=match m,xs with
 | .mk nk,[]=>some (.map U.length,U++[.mp true nk []])
 | .get nk z ok,[.map l,k]=>(match x8 nk k,U[l]? with
  |some ks,some (.mp _ nk' es)=>if nk'=nk then some (tJ z ok (bP ks es),U)else none
  |_,_=>none)
 | .set nk,[.map l,k,v]=>(match x8 nk k,U[l]? with
  |some ks,some (.mp fr nk' es)=>if nk'=nk then some (.lit undef,U.set l (.mp fr nk (mG ks v es)))else none
  |_,_=>none)
 | .del nk,[.map l,k]=>(match x8 nk k,U[l]? with
  |some ks,some (.mp _ nk' es)=>if nk'=nk then some (.tup [],U.set l (.mp false nk (zBF ks es)))else none
  |_,_=>none)
 | .clr sz zs,[.win l n o k _]=>(match U[l]? with
  |some (.row fz e s m cs)=>if n=m/\s=sz/\fz=false/\o+k*sz<=cs.length then some (.tup [],U.set l (.row false e sz n (cs.take o++(List.replicate k (zs.map q9)).flatten++cs.drop (o+k*sz))))else none
  |_=>none)
 | .mks e sz bytes zs,[.lit (.int _ n),.lit (.int _ c)]=>if 0<=n/\c=n/\n<=1000000000000/\bytes*n.toNat<=281474976710656 then some (.row U.length n.toNat,U++[.row false e sz n.toNat ((List.replicate n.toNat (zs.map q9)).flatten)])else none
 | .cvt k,[.lit (.int _ n)]=>some (.lit (.int k (k.wrap n)),U)
 | .str,[.sl n cs]=>(match tT cs with
  |some xs=>if xs.length=n/\n≠0 then some (.lit (.string (strOfNums xs)),U)else none
  |none=>none)
 | .str,[.fsl n cs]=>(match tT cs with
  |some xs=>if xs.length=n/\n≠0 then some (.lit (.string (strOfNums xs)),U)else none
  |none=>none)
 |_,_=>none
noncomputable section
open Classical
def cK(neg:Bool)(p:Prop):A:=.lit (.bool (if neg then decide (¬p)else decide p))
def tU(max:Bool):Int->List A->IntKind->Option A
 |m,[],k=>some (.lit (.int k m))
 |m,.lit (.int k' b)::rest,k=>if k'=k then tU max (if max then (if b > m then b else m)else (if b<m then b else m)) rest k else none
 |_,_,_=>none
def qQ(env:Env)(dflt:Nat):Option Operand->Option Int
 |none=>some dflt
 |some x=>match ev env x with
  | .lit (.int _ j)=>some j
  |_=>none
def zRG(op:BinOp)(a b:ByteArray):Option (Prop×A):=match op with
 | .add=>some (a.size+b.size<=1000000,.lit (.string (a++b)))
 |_=>none
def zO(env:Env) (U:St):KOp->Option (Prop×A)
 | .mov _ x=>some (True,ev env x)
 | .pick _ c a b=>match ev env c with
  | .lit (.bool t)=>some (True,if t then ev env a else ev env b)
  |_=>none
 | .ld _ x n agg=>((ldA U n (ev env x)).bind (fH agg)).map fun r=>(True,r)
 | .addr _ x off=>match ev env x with
  | .ptr l o=>some (True,.ptr l (o+off))
  | .rptr cs=>some (True,.rptr (cs.drop off))
  | .rwp l n o=>match U[l]? with
   |some (.row _ _ _ m _)=>if n=m then some (True,.rwp l n (o+off))else none
   |_=>none
  |_=>none
 | .idx _ x i sz=>match ev env x,ev env i with
  | .sl n cs,.lit (.int _ j)=>some ((0<=j/\j<n)/\j.toNat*sz<cs.length,.rptr (cs.drop (j.toNat*sz)))
  | .fsl n cs,.lit (.int _ j)=>some ((0<=j/\j<n)/\j.toNat*sz<cs.length,.rptr (cs.drop (j.toNat*sz)))
  | .row l n,.lit (.int _ j)=>match U[l]? with
   |some (.row _ _ s m _)=>if n=m/\s=sz then some (0<=j/\j<n,.rwp l n (j.toNat*sz))else none
   |_=>none
  | .win l n o k _,.lit (.int _ j)=>match U[l]? with
   |some (.row _ _ s m _)=>if n=m/\s=sz then some (0<=j/\j<k,.rwp l n (o+j.toNat*sz))else none
   |_=>none
  |_,_=>none
 | .idxarr _ x i len sz=>match ev env x,ev env i with
  | .ptr l o,.lit (.int _ j)=>some (0<=j/\j<len,.ptr l (o+j.toNat*sz))
  | .rptr cs,.lit (.int _ j)=>some ((0<=j/\j<len)/\j.toNat*sz<cs.length,.rptr (cs.drop (j.toNat*sz)))
  |_,_=>none
 | .fld _ x off n agg=>match ev env x with
  | .agg cs=>((sub cs off n).bind (fH agg)).map fun r=>(True,r)
  |_=>none
 | .ix _ x i len sz agg=>match ev env x,ev env i with
  | .agg cs,.lit (.int _ j)=>((sub cs (j.toNat*sz) sz).bind (fH agg)).map fun r=>(0<=j/\j<len,r)
  |_,_=>none
 | .bin _ op x y=>match ev env x,ev env y with
  | .lit (.int k a),.lit (.int k' b)=>if k=k' then oU op k a b else none
  | .lit (.string a),.lit (.string b)=>zRG op a b
  |_,_=>none
 | .eqv _ neg k x y=>(eM k (ev env x) (ev env y)).map fun p=>(True,cK neg p)
 | .eqs _ neg ks x y=>match ev env x,ev env y with
  | .agg xs,.agg ys=>(yE ks xs ys).map fun p=>(True,cK neg p)
  |_,_=>none
 | .isn _ neg x=>match ev env x with
  | .nil=>some (True,.lit (.bool !neg))
  | .sl n _=>some (n≠0,.lit (.bool neg))
  | .fsl n _=>some (n≠0,.lit (.bool neg))
  |_=>none
 | .neg _ x=>match ev env x with
  | .lit (.int k a)=>some (True,.lit (.int k (k.wrap (0-a))))
  |_=>none
 | .not _ x=>match ev env x with
  | .lit (.bool b)=>some (True,.lit (.bool !b))
  |_=>none
 | .mm _ max xs=>match xs.map (ev env)with
  | .lit (.int k a)::rest=>(tU max a rest k).map fun r=>(True,r)
  |_=>none
 | .ext _ x i=>match ev env x with
  | .tup vs=>(vs[i]?).map fun r=>(True,r)
  |_=>none
 | .clo _ f first cap=>some (True,.clo f (first.map (ev env)) (cap.map (ev env)))
 | .isp _ neg x=>match ev env x with
  | .lit (.pointer none)=>some (True,.lit (.bool !neg))
  | .rptr _=>some (True,.lit (.bool neg))
  | .ptr _ _=>some (True,.lit (.bool neg))
  |_=>none
 | .mki _ t x=>some (True,match ev env x with
  | .lit v=>.lit (.iface t v)
  |_=>.any)
 | .nilc _ x=>match ev env x with
  | .ptr l o=>some (True,.ptr l o)
  | .rptr cs=>some (True,.rptr cs)
  |_=>none
 | .build _ zero parts=>(eD (zero.map q9) (parts.map fun(o,s,x)=>(o,s,ev env x))).map fun cs=>(True,.agg cs)
 | .len _ false x=>match ev env x with
  | .nil=>some (True,.lit (.int .i64 0))
  | .sl n _=>some (True,.lit (.int .i64 n))
  | .fsl n _=>some (True,.lit (.int .i64 n))
  | .row l n=>match U[l]? with
   |some (.row _ _ _ m _)=>if n=m then some (True,.lit (.int .i64 n))else none
   |_=>none
  | .win l n _ k _=>match U[l]? with
   |some (.row _ _ _ m _)=>if n=m then some (True,.lit (.int .i64 k))else none
   |_=>none
  |_=>none
 | .len _ true x=>match ev env x with
  | .lit (.string s)=>some (True,.lit (.int .i64 s.size))
  |_=>none
 | .rslc _ x sz lo hi=>match ev env x with
  | .row l n=>match U[l]? with
   |some (.row _ _ s m _)=>if n=m/\s=sz then (match qQ env 0 lo,qQ env n hi with
    |some l',some h=>some (0<=l'/\l'<=h/\h<=n,.win l n (l'.toNat*sz) (h-l').toNat sz)
    |_,_=>none)else none
   |_=>none
  | .win l n o k c=>match U[l]? with
   |some (.row _ _ s m _)=>if n=m/\s=sz then (match qQ env 0 lo,qQ env k hi with
    |some l',some h=>some ((0<=l'/\l'<=h/\h<=k)/\c=sz,.win l n (o+l'.toNat*sz) (h-l').toNat sz)
    |_,_=>none)else none
   |_=>none
  |_=>none
 | .slc _ x sz lo hi none=>match ev env x with
  | .sl n cs=>match qQ env 0 lo,qQ env n hi with
   |some l,some h=>some (0<=l/\l<=h/\h<=n,.sl (h-l).toNat ((cs.drop (l.toNat*sz)).take ((h-l).toNat*sz)))
   |_,_=>none
  | .fsl n cs=>match qQ env 0 lo,qQ env n hi with
   |some l,some h=>some (0<=l/\l<=h/\h<=n,.sl (h-l).toNat ((cs.drop (l.toNat*sz)).take ((h-l).toNat*sz)))
   |_,_=>none
  | .nil=>match qQ env 0 lo,qQ env 0 hi with
   |some l,some h=>some (l=0/\h=0,.nil)
   |_,_=>none
  |_=>none
 | .slc _ x sz lo (some hi) (some mx)=>match ev env x with
  | .sl n cs=>match qQ env 0 lo,qQ env n (some hi),qQ env n (some mx)with
   |some l,some h,some m=>some ((0<=l/\l<=h/\h<=n)/\m=h,.fsl (h-l).toNat ((cs.drop (l.toNat*sz)).take ((h-l).toNat*sz)))
   |_,_,_=>none
  | .fsl n cs=>match qQ env 0 lo,qQ env n (some hi),qQ env n (some mx)with
   |some l,some h,some m=>some ((0<=l/\l<=h/\h<=n)/\m=h,.fsl (h-l).toNat ((cs.drop (l.toNat*sz)).take ((h-l).toNat*sz)))
   |_,_,_=>none
  | .nil=>match qQ env 0 lo,qQ env 0 (some hi),qQ env 0 (some mx)with
   |some l,some h,some m=>some ((l=0/\h=0)/\m=0,.nil)
   |_,_,_=>none
  |_=>none
 |_=>none
end
end Go.Abs
namespace Go.Proofs.YtolkhapmieigcaaGreatDoor
open Go Go.ChangeShapes Go.WideShapes Go.ChangeAt Go.RowKit Go.Abs
abbrev zAU:List (String×DataW Unit):=[("splicery/eval.numbers",Rows.laid_splicery_eval_numbers)]
def zBz(W:World):Prop:=∀b o v,zMH b o=some v->W.cell? ⟨b,o,none⟩=some v
theorem i5{W:World}(h:laidMetH Tryz.prog zAU W):zBz W:=by
 obtain⟨g,t,cs,fuel,p,hg,ht,hv,hd⟩:=h.funcs (n := "splicery/eval.numbers") (jAp ..);obtain rfl:=jAw ((show Tryz.prog.globalNamed "splicery/eval.numbers" = some 0 by kernel_rfl).symm.trans hg);obtain rfl:=jAw ((show (Tryz.prog.globals[0]?).map (·.type)=some 289 by kernel_rfl).symm.trans ht);obtain⟨xs,m,_,ex,hcl,hl,hel⟩:=DataW.trod_array (n:=5) (e:=43) Tryz.underlying289 hd;rw[show Tryz.prog.cellsOf 289=5 by kernel_rfl]at hcl;simp only[show Tryz.prog.cellsOf 43=1 by kernel_rfl,Nat.mul_one]at hel;have hc:=fun i=>World.var?_cell hg hv i
 simp only[<-jCy]at hc;generalize cs.toList=l at hc hel hcl hd;obtain⟨v0,l,rfl⟩:=jC2 (by omega:0<l.length);obtain⟨v1,l,rfl⟩:=jC2 (by simp at hcl;omega:0<l.length);obtain⟨v2,l,rfl⟩:=jC2 (by simp at hcl;omega:0<l.length);obtain⟨v3,l,rfl⟩:=jC2 (by simp at hcl;omega:0<l.length);obtain⟨v4,l,rfl⟩:=jC2 (by simp at hcl;omega:0<l.length);obtain rfl:l=[]:=by simpa using hcl
 obtain⟨x0,xs,rfl⟩:=jC2 (by omega:0<xs.length);obtain⟨x1,xs,rfl⟩:=jC2 (by simp at hl;omega:0<xs.length);obtain⟨x2,xs,rfl⟩:=jC2 (by simp at hl;omega:0<xs.length);obtain⟨x3,xs,rfl⟩:=jC2 (by simp at hl;omega:0<xs.length);obtain⟨x4,xs,rfl⟩:=jC2 (by simp at hl;omega:0<xs.length);obtain rfl:xs=[]:=by simpa using hl
 obtain⟨d0,q0⟩:=x0;obtain⟨d1,q1⟩:=x1;obtain⟨d2,q2⟩:=x2;obtain⟨d3,q3⟩:=x3;obtain⟨d4,q4⟩:=x4;have ex:=(Prod.mk.inj ex).1;simp only[Rows.laid_splicery_eval_numbers,DataW.funcsOut,DataW.funcsOutAll,jAc,jBk,DataW.agg.injEq,jBd,and_true]at ex;obtain⟨rfl,rfl,rfl,rfl,rfl⟩:=ex;obtain rfl:=func_of_trod (f0:=255) Tryz.underlying43 (by kernel_rfl) (hel 0 (by omega));obtain rfl:=func_of_trod (f0:=256) Tryz.underlying43 (by kernel_rfl) (hel 1 (by omega));obtain rfl:=func_of_trod (f0:=257) Tryz.underlying43 (by kernel_rfl) (hel 2 (by omega));obtain rfl:=func_of_trod (f0:=258) Tryz.underlying43 (by kernel_rfl) (hel 3 (by omega));obtain rfl:=func_of_trod (f0:=259) Tryz.underlying43 (by kernel_rfl) (hel 4 (by omega));intro b o v hb;unfold zMH at hb;by_cases hb0:b=0
 .subst hb0;rw[hc];exact hb
 .rw[show zMG.lookup b=none by simp[zMG,List.lookup,beq_eq_false_iff_ne.2 hb0]]at hb;cases hb
end Go.Proofs.YtolkhapmieigcaaGreatDoor
namespace Go.Abs
section
variable{P:Program}{H:Mem}{L:wO} {U:St}{w:World}{N:Nat}{env:Env}{a:Act}
theorem zED(v:Value):Rel H L (q9 v) v:=by unfold q9;split<;>simp[Rel]
theorem cH:∀(vs:wM),z6 H L (vs.map q9) vs
 |[]=>jF
 |v::vs=>qF (zED v) (cH vs)
theorem uB(v:Value):Rel H L (u9 v) v:=by
 unfold u9;split
 .rename_i cs;split
  .rename_i h;simp only[Rel];exact⟨cs.toList,by simp,cH _,fun u hu=>by simp only[aI,jB0]at h;exact h u hu⟩
  .simp[Rel]
 .exact zED v
theorem zLH(v:Value):Rel H L (zH7 v) v:=by
 unfold zH7;split
 .simp only[Rel];exact⟨[],[],rfl,jF,jF⟩
 .simp[Rel]
theorem zCT:∀vs:wM,z6 H L (vs.map zH7) vs
 |[]=>jF
 |v::vs=>qF (zLH v) (zCT vs)
theorem qE(he:qI H L N env a.tmps)(x:Operand):Rel H L (ev env x) (a.eval x):=by
 cases x with
 |tmp t=>exact he.2 t
 |const v=>exact uB v
 |global g =>
  simp only[ev];split
  .rename_i vs hvs;split
   .rename_i hone;simp only[Rel];refine⟨g,0,vs,rfl,zCT vs,fun u hu=>by simp only[jB0]at hone;exact hone u hu,fun i u hi=>?_⟩;rw[jAx];exact H.2 g i u (by simp only[zMH,hvs];exact hi)
   .simp[Rel]
  .simp[Rel]
 |func f=>simp only[ev,Rel,Act.eval];exact⟨[],[],rfl,jF,jF⟩
theorem zT6{cs:Array Value}(h:one (.agg cs)):False:=by simp[one,Value.oneCell']at h
variable{v:Value}
theorem zHb(h:one v):v.cells.toList=[v]:=by cases v<;>first|rfl|(exact(zT6 h).elim)
variable{cs:wF}
theorem uA{x:A}(h:Rel H L x v)(hc:cellsOf x=some cs):z6 H L cs v.cells.toList/\∀u∈v.cells.toList,one u:=by
 have sing:∀{x:A} {v:Value},Rel H L x v->one v->some [x]=some cs->z6 H L cs v.cells.toList/\∀u∈v.cells.toList,one u:=by intro x v hx ho hs;rw[zHb ho];cases hs;exact⟨qF hx jF,by simpa using ho⟩
 cases x<;>simp only[cellsOf]at hc<;>try(cases hc;done)
 case nil=>exact sing h (by simp only[Rel]at h;subst h;rfl) hc
 case lit u =>
  split at hc
  .rename_i ho;exact sing h (by simp only[Rel]at h;subst h;exact ho) hc
  .cases hc
 case agg ds =>
  simp only[jA1]at hc;subst hc;simp only[Rel]at h;obtain⟨vs,rfl,h1,h2⟩:=h
  simpa[Value.cells]using ⟨h1,h2⟩
 case sl n ds=>exact sing h (by simp only[Rel]at h;obtain⟨_,_,rfl,_⟩:=h;rfl) hc
 case fsl n ds=>exact sing h (by simp only[Rel]at h;obtain⟨_,rfl,_⟩:=h;rfl) hc
 case ptr l o=>exact sing h (by simp only[Rel]at h;obtain⟨_,_,_,_,_,rfl⟩:=h;rfl) hc
 case rptr ds=>exact sing h (by simp only[Rel]at h;obtain⟨_,_,_,rfl,_⟩:=h;rfl) hc
 case row l n=>exact sing h (by simp only[Rel]at h;exact h.1) hc
 case rwp l n o=>exact sing h (by simp only[Rel]at h;exact h.1) hc
 case win l n o k c=>exact sing h (by simp only[Rel]at h;exact h.1) hc
 case map l=>exact sing h (by simp only[Rel]at h;obtain⟨_,_,_,_,_,rfl⟩:=h;rfl) hc
 case clo f fs cs'=>exact sing h (by simp only[Rel]at h;obtain⟨_,_,rfl,_⟩:=h;rfl) hc
variable{t:TypeId}{u:TypeDesc}
theorem mP(hu:P.underlying t=some u):(isAgg t).run P w=.ok (zA0 u) w:=by unfold isAgg;rw[Sem.run_bind,run_underlying hu,Result.andThen_ok];cases u<;>rfl
variable{i:TypeInfo}
theorem yC(hi:P.info? t=some i):(sizeOf t).run P w=.ok i.size w:=by simp[sizeOf,typeInfo,hi]
theorem zCX(hu:P.underlying t=some u)(hi:P.info? t=some i){b o:Nat}{us:wM}
 (hc:∀j v,us[j]?=some v->w.cell? ⟨b,o+j,none⟩=some v)(hl:us.length=i.size){r:A}(hr:z6 H L cs us)(h1:∀u∈us,one u)
 (hp:fH (zA0 u) cs=some r):∃v,(loadVar t ⟨b,o,none⟩).run P w=.ok v w/\Rel H L r v:=by
 unfold loadVar;rw[Sem.run_bind,mP hu,Result.andThen_ok];cases hag:zA0 u with
 |true =>
  rw[hag]at hp;simp only[fH,jA1]at hp;subst hp;refine⟨.agg us.toArray,?_,?_⟩
  .simp only[if_true,Sem.run_bind,yC hi,Result.andThen_ok,<-hl];rw[run_loadCells_list w ⟨b,o,none⟩ us (fun j v hv=>by rw[Addr.add_lit];exact hc j v hv)];rfl
  .simp only[Rel];exact⟨us,rfl,hr,h1⟩
 |false =>
  rw[hag]at hp;cases cs with
  |nil=>simp[fH]at hp
  |cons c cs =>
   cases cs with
   |cons c' cs=>simp[fH]at hp
   |nil =>
    simp only[fH,jA1]at hp;subst hp;obtain⟨u',us',rfl,h2,h3⟩:=zZ hr;have h4:=qY h3;subst h4;refine⟨u',?_,h2⟩;have:=hc 0 u' (by simp);simp only[jCf]at this;simp[this]
theorem zDu{cs':wF}{us:wM}{off n:Nat}(h:sub cs off n=some cs')(hr:z6 H L cs us) :
 z6 H L cs' ((us.drop off).take n)/\((us.drop off).take n).length=n:=by
 unfold sub at h;split at h
 .cases h;refine⟨(hr.drop off).take n,?_⟩;have:=hr.length;simp only[jAv,jCg];omega
 .cases h
theorem i4{α:Type}{us:List α}{off n j:Nat}{v : α}(h:((us.drop off).take n)[j]?=some v):us[off+j]?=some v:=by
 rw[jBc]at h;split at h
 .rwa[jCq]at h
 .cases h
theorem cO{α:Type}{us:List α}{off n:Nat}{p : α->Prop}(h:∀u∈us,p u):∀u∈(us.drop off).take n,p u :=
 fun u hu=>h u (jBv (jC3 hu))
theorem zGn(hs:RelSt H L U w){x:A}{n:Nat}(hx:Rel H L x v)(hl:ldA U n x=some cs) :
 ∃b o,∃us:wM,v=.pointer (some ⟨b,o,none⟩)/\z6 H L cs us/\us.length=n/\(∀u∈us,one u)/\∀j u,us[j]?=some u->w.cell? ⟨b,o+j,none⟩=some u:=by
 cases x<;>simp only[ldA]at hl<;>try(cases hl;done)
 case rptr ds =>
  simp only[Rel]at hx;obtain⟨b,o,us,rfl,h1,h2,h3⟩:=hx;obtain⟨h4,h5⟩:=zDu hl h1;refine⟨b,o,_,rfl,h4,h5,cO h2,fun j u hu=>?_⟩;have:=i4 hu;simp only[jAx]at this;exact hs.pers _ _ _ (h3 j u this)
 case ptr l off =>
  simp only[Rel]at hx;obtain⟨li,b,e1,e2,e3,rfl⟩:=hx;split at hl<;>try(cases hl;done)
  rename_i ds hds;have ho:=hs.obj l li _ e1 hds;simp only[zW]at ho;obtain⟨_,b',vs,e,hb',hh,hr,h1,_⟩:=ho;rw[e2]at hb';cases hb';obtain⟨h4,h5⟩:=zDu hl hr;refine⟨b,off,_,rfl,h4,h5,cO h1,fun j u hu=>?_⟩;rw[cell_of_row w b _ _ _ _ hh]
  simpa using i4 hu
 case rwp l m off =>
  simp only[Rel]at hx;obtain⟨_,li,e1,e2,e3,e4⟩:=hx;split at hl<;>try(cases hl;done)
  rename_i fz e sz k ds hds;split at hl<;>try(cases hl;done)
  rename_i hk;subst hk;have ho:=hs.obj l li _ e1 hds;simp only[zW]at ho;obtain⟨_,hlen,_,ho⟩:=ho;obtain⟨b,hb,rfl⟩:=e4 hlen.symm;rcases ho with ⟨h0,_⟩|⟨b',cur,hb',hh,_,_,_,hr,h1,_⟩
  .rw[hb]at h0;cases h0
  .rw[hb]at hb';cases hb';obtain⟨h4,h5⟩:=zDu hl hr;refine⟨b,off,_,rfl,h4,h5,cO h1,fun j u hu=>?_⟩;rw[cell_of_row w b _ _ _ _ hh];have:=i4 hu;rw[jBc]at this;split at this
   .simpa using this
   .cases this
end
end Go.Abs
namespace Go.Abs
section
variable{P:Program}{H:Mem}{L:wO} {U:St}{w:World}{N:Nat}{env:Env}{a:Act}
def aV(P:Program)(H:Mem)(L:wO)(w:World)(a:Act)(o:Oper)(r:A):Prop :=
 ∃v,(execOp a.eval o).run P w=.ok (.value v) w/\Rel H L r v
theorem qG{s:Sem Value}{v:Value}{w':World}(h:s.run P w=.ok v w'):(do pure (Next.value (<-s)):Sem Next).run P w=.ok (.value v) w':=by simp[h]
variable{o:Oper}{t:TypeId}{x:Operand}{u:TypeDesc}{i:TypeInfo}{r:A}
theorem zQB(ho:o.op=.load t x)(hu:P.underlying t=some u)(hi:P.info? t=some i)
 (he:qI H L N env a.tmps)(hs:RelSt H L U w)(h:((ldA U i.size (ev env x)).bind (fH (zA0 u)))=some r):aV P H L w a o r:=by
 rw[jA9]at h;obtain⟨cs,h1,h2⟩:=h;obtain⟨b,off,us,hv,hr,hl,ho1,hc⟩:=zGn hs (qE he x) h1;obtain⟨v,hrun,hrel⟩:=zCX (w:=w) hu hi hc hl hr ho1 h2;refine⟨v,?_,hrel⟩;unfold execOp;simp only[ho];exact qG (by simp[Instr.loadAt,hv,Instr.sureAddr,hrun])
theorem zGg(ho:o.op=.move x\/o.op=.assign x)(he:qI H L N env a.tmps):aV P H L w a o (ev env x):=by refine⟨a.eval x,?_,qE he x⟩;unfold execOp;rcases ho with ho|ho<;>simp[ho]
variable{y:Operand}
theorem zLh{c:Operand}{t:Bool}(ho:o.op=.pick c x y)(he:qI H L N env a.tmps)(hc:ev env c=.lit (.bool t)) :
 aV P H L w a o (if t then ev env x else ev env y):=by
 have h:=qE he c;rw[hc]at h;simp only[Rel]at h;refine⟨if t then a.eval x else a.eval y,?_,?_⟩
 .unfold execOp;simp[ho,h,asBool]
 .cases t
  .exact qE he y
  .exact qE he x
variable{fs:Array Field}
theorem zLe{s:TypeId}{f:Nat}{g:Field}(ho:o.op=.fieldAddr s x f)
 (hu:P.underlying s=some (.struct fs))(hg:fs[f]?=some g)(hi:P.info? g.type=some i)(h0:i.size≠0)(he:qI H L N env a.tmps)(hs:RelSt H L U w){p:Prop}
 (h:zO env U (.addr o.dst x g.offset)=some (p,r)):aV P H L w a o r:=by
 have hx:=qE he x;have fin:∀b off,a.eval x=.pointer (some ⟨b,off,none⟩)->Rel H L r (.pointer (some ⟨b,off+g.offset,none⟩))->aV P H L w a o r:=by intro b off hv hr;refine⟨_,?_,hr⟩;unfold execOp;simp only[ho];refine qG ?_;simp[Instr.fieldAt,run_underlying hu,hg,hv,Instr.sureAddr,fieldPlace,yC hi,h0,Addr.add_lit]
 simp only[zO]at h;split at h<;>try(cases h;done)
 .rename_i l off hxe;cases h;rw[hxe]at hx;simp only[Rel]at hx;obtain⟨li,b,e1,e2,e3,hv⟩:=hx;exact fin b off hv (by simp only[Rel];exact⟨li,b,e1,e2,e3,rfl⟩)
 .rename_i cs hxe;cases h;rw[hxe]at hx;simp only[Rel]at hx;obtain⟨b,off,us,hv,h1,h2,h3⟩:=hx;exact fin b off hv (by simp only[Rel];exact⟨b,off+g.offset,us.drop g.offset,rfl,h1.drop _,fun u hu=>h2 u (jBv hu),h3.drop _⟩)
 .rename_i l n off hxe;rw[hxe]at hx;simp only[Rel]at hx;obtain⟨ho1,li,e1,e2,e3,hv⟩:=hx;split at h<;>try(cases h;done)
  rename_i fz e sz m ds hds;split at h<;>try(cases h;done)
  rename_i hn;cases h;have hob:=hs.obj l li _ e1 hds;simp only[zW]at hob;obtain⟨b,hb,hv⟩:=hv (by rw[hn,hob.2.1]);exact fin b off hv (by simp only[Rel];exact⟨rfl,li,e1,e2,e3,fun _=>⟨b,hb,rfl⟩⟩)
theorem nK(k:IntKind)(j:Int):(asIntOf (.int k j)).run P w=.ok (k,j) w:=rfl
variable{e:TypeId}{ti:TypeInfo}
theorem zOe{i:Operand}(ho:o.op=.indexAddr t x i)
 (hu:P.underlying t=some (.slice e))(hi:P.info? e=some ti)(he:qI H L N env a.tmps)(hs:RelSt H L U w){p:Prop}
 (h:zO env U (.idx o.dst x i ti.size)=some (p,r))(hp:p):aV P H L w a o r:=by
 have hx:=qE he x;have hy:=qE he i;have fin:∀b off n cap (k:IntKind) (j:Int),a.eval x=.slice (some ⟨b,off,none⟩) n cap->a.eval i=.int k j->0<=j->j<n ->
  Rel H L r (.pointer (some ⟨b,off+j.toNat*ti.size,none⟩))->aV P H L w a o r:=by
  intro b off n cap k j hv hj h0 h1 hr;refine⟨_,?_,hr⟩;unfold execOp;simp only[ho];refine qG ?_;simp[Instr.indexAt,run_underlying hu,hv,hj,nK,yC hi,Addr.add_lit,h0,h1]
 simp only[zO]at h;split at h<;>try(cases h;done)
 .rename_i n cs k j hxe hye;cases h;rw[hxe]at hx;rw[hye]at hy;simp only[Rel]at hx hy;obtain⟨ad,cap,hv,h1,h2,h3⟩:=hx;obtain⟨⟨h4,h5⟩,h6⟩:=hp;rcases h3 with ⟨rfl,rfl⟩|⟨b,off,us,rfl,g1,g2,g3⟩
  .simp at h6
  .exact fin b off n cap k j hv hy h4 h5 (by simp only[Rel];exact⟨b,_,us.drop _,rfl,g1.drop _,fun u hu=>g2 u (jBv hu),g3.drop _⟩)
 .rename_i n cs k j hxe hye;cases h;rw[hxe]at hx;rw[hye]at hy;simp only[Rel]at hx hy;obtain⟨ad,hv,h2,h3⟩:=hx;obtain⟨⟨h4,h5⟩,h6⟩:=hp;rcases h3 with ⟨rfl,rfl⟩|⟨b,off,us,rfl,g1,g2,g3⟩
  .simp at h6
  .exact fin b off n n k j hv hy h4 h5 (by simp only[Rel];exact⟨b,_,us.drop _,rfl,g1.drop _,fun u hu=>g2 u (jBv hu),g3.drop _⟩)
 .rename_i l n k j hxe hye;split at h<;>try(cases h;done)
  rename_i fz e' sz m ds hds;split at h<;>try(cases h;done)
  rename_i hn;obtain⟨hn,rfl⟩:=hn;cases h;rw[hxe]at hx;rw[hye]at hy;simp only[Rel]at hx hy;obtain⟨ho1,li,e1,e2,e3,hv⟩:=hx;have hob:=hs.obj l li _ e1 hds;simp only[zW]at hob;obtain⟨_,hlen,_,hob⟩:=hob;have hv:=hv (by rw[hn,hlen]);rcases hob with ⟨_,h0⟩|⟨b,cur,hb,_⟩
  .exfalso;have:=hp.1;have:=hp.2;omega
  .rw[hb]at hv;simp only at hv;have:=fin b 0 n li.cap k j hv hy hp.1 hp.2 (by simp only[Rel];exact⟨rfl,li,e1,e2,e3,fun _=>⟨b,hb,by simp⟩⟩);exact this
 .rename_i l n off k' _ k j hxe hye;split at h<;>try(cases h;done)
  rename_i fz e' sz m ds hds;split at h<;>try(cases h;done)
  rename_i hn;obtain⟨hn,rfl⟩:=hn;cases h;rw[hxe]at hx;rw[hye]at hy;simp only[Rel]at hx hy;obtain⟨ho1,li,e1,e2,e3,hv⟩:=hx;have hob:=hs.obj l li _ e1 hds;simp only[zW]at hob;obtain⟨_,hlen,_,hob⟩:=hob;obtain⟨_,ad,cap,hv,_,_,g3⟩:=hv (by rw[hn,hlen]);rcases g3 with g3|⟨b,hb,rfl,_⟩
  .exfalso;have:=hp.1;have:=hp.2;omega
  .exact fin b off k' cap k j hv hy hp.1 hp.2 (by simp only[Rel];exact⟨rfl,li,e1,e2,e3,fun _=>⟨b,hb,rfl⟩⟩)
theorem zHl{i:Operand}{n:Nat}(ho:o.op=.indexAddr t x i)
 (hu:P.underlying t=some (.array n e))(hi:P.info? e=some ti)(he:qI H L N env a.tmps){p:Prop}
 (h:zO env U (.idxarr o.dst x i n ti.size)=some (p,r))(hp:p):aV P H L w a o r:=by
 have hx:=qE he x;have hy:=qE he i;simp only[zO]at h;split at h<;>try(cases h;done)
 rotate_left
 .rename_i cs k j hxe hye;cases h;rw[hxe]at hx;rw[hye]at hy;simp only[Rel]at hx hy;obtain⟨b,off,us,hv,g1,g2,g3⟩:=hx;refine⟨.pointer (some ⟨b,off+j.toNat*ti.size,none⟩),?_,by simp only[Rel];exact⟨b,_,_,rfl,g1.drop _,fun u hu=>g2 u (jBv hu),g3.drop _⟩⟩;unfold execOp;simp only[ho];refine qG ?_;simp[Instr.indexAt,Instr.sureAddr,run_underlying hu,hv,hy,nK,yC hi,Addr.add_lit,hp.1.1,hp.1.2]
 rename_i l off k j hxe hye;cases h;rw[hxe]at hx;rw[hye]at hy;simp only[Rel]at hx hy;obtain⟨li,b,e1,e2,e3,hv⟩:=hx;refine⟨.pointer (some ⟨b,off+j.toNat*ti.size,none⟩),?_,by simp only[Rel];exact⟨li,b,e1,e2,e3,rfl⟩⟩;unfold execOp;simp only[ho];refine qG ?_;simp[Instr.indexAt,Instr.sureAddr,run_underlying hu,hv,hy,nK,yC hi,Addr.add_lit,hp.1,hp.2]
theorem zJN(hu:P.underlying t=some u)(hi:P.info? t=some i){vs:wM}{cs:wF}(hr:z6 H L cs vs)(h1:∀x∈vs,one x)
 {off:Nat}(h:(sub cs off i.size).bind (fH (zA0 u))=some r):∃v,(part t vs.toArray off).run P w=.ok v w/\Rel H L r v:=by
 rw[jA9]at h;obtain⟨ds,g1,g2⟩:=h;obtain⟨g3,g4⟩:=zDu g1 hr;unfold part;rw[Sem.run_bind,mP hu,Result.andThen_ok];cases hag:zA0 u with
 |true =>
  rw[hag]at g2;simp only[fH,jA1]at g2;subst g2;refine⟨.agg ((vs.drop off).take i.size).toArray,?_,by simp only[Rel];exact⟨_,rfl,g3,cO h1⟩⟩;simp only[if_true,Sem.run_bind,yC hi,Result.andThen_ok,Sem.run_pure]
  congr 2
  apply jC4;simp[List.extract_eq_take_drop]
 |false =>
  rw[hag]at g2;cases ds with
  |nil=>simp[fH]at g2
  |cons c ds =>
   cases ds with
   |cons c' ds=>simp[fH]at g2
   |nil =>
    simp only[fH,jA1]at g2;subst g2;obtain⟨v,us,e,k1,k2⟩:=zZ g3;have hv:vs[off]?=some v:=by
     have:((vs.drop off).take i.size)[0]?=some v:=by rw[e];rfl
     simpa using i4 this
    refine⟨v,?_,k1⟩;simp[hv]
theorem zOd{f:Nat}{g:Field}(ho:o.op=.field t x f)
 (hut:P.underlying t=some (.struct fs))(hg:fs[f]?=some g)(hu:P.underlying g.type=some u)(hi:P.info? g.type=some i)(he:qI H L N env a.tmps){p:Prop}
 (h:zO env U (.fld o.dst x g.offset i.size (zA0 u))=some (p,r)):aV P H L w a o r:=by
 have hx:=qE he x;simp only[zO]at h;split at h<;>try(cases h;done)
 rename_i cs hxe;rw[hxe]at hx;simp only[Rel]at hx;obtain⟨vs,hv,h1,h2⟩:=hx;simp only[jAe,jBl]at h;obtain⟨r',h3,_,rfl⟩:=h;obtain⟨v,hrun,hrel⟩:=zJN (w:=w) hu hi h1 h2 h3;refine⟨v,?_,hrel⟩;unfold execOp;simp only[ho];refine qG ?_;simp[Instr.field,run_underlying hut,hg,hv,asAgg,hrun]
theorem zQA{n:Nat}(ho:o.op=.index t x y)
 (hut:P.underlying t=some (.array n e))(hu:P.underlying e=some u)(hi:P.info? e=some i)(he:qI H L N env a.tmps){p:Prop}
 (h:zO env U (.ix o.dst x y n i.size (zA0 u))=some (p,r))(hp:p):aV P H L w a o r:=by
 have hx:=qE he x;have hy:=qE he y;simp only[zO]at h;split at h<;>try(cases h;done)
 rename_i cs k j hxe hye;rw[hxe]at hx;rw[hye]at hy;simp only[Rel]at hx hy;obtain⟨vs,hv,h1,h2⟩:=hx;simp only[jAe,jBl]at h;obtain⟨r',h3,rfl,rfl⟩:=h;obtain⟨v,hrun,hrel⟩:=zJN (w:=w) hu hi h1 h2 h3;refine⟨v,?_,hrel⟩;unfold execOp;simp only[ho];refine qG ?_;simp[Instr.index,run_underlying hut,hv,hy,nK,hp.1,hp.2,yC hi,hrun]
theorem zC9(op:BinOp)(t:TypeId)(x y:Operand)(k k':IntKind)(m n:Int):(eqGuard op t x y (.int k m) (.int k' n)).run P w=.ok () w:=by unfold eqGuard;cases op<;>rfl
theorem zOa{op:BinOp}{t':TypeId}(ho:o.op=.binOp op t x y t')(he:qI H L N env a.tmps){p:Prop}
 (h:zO env U (.bin o.dst op x y)=some (p,r))(hp:p):aV P H L w a o r:=by
 have hx:=qE he x;have hy:=qE he y;simp only[zO]at h;split at h<;>try(cases h;done)
 case h_2 sa sb hxe hye =>
  rw[hxe]at hx;rw[hye]at hy;simp only[Rel]at hx hy;cases op<;>simp only[zRG]at h<;>try(cases h;done)
  simp only[jA1,jBl]at h;obtain⟨rfl,rfl⟩:=h;refine⟨.string (sa++sb),?_,by simp[Rel]⟩;unfold execOp;simp only[ho];refine qG ?_;have e2:IntKind.i64.max=9223372036854775807:=by decide
  have hle:¬((sa.size+sb.size:Nat):Int) > IntKind.i64.max:=by rw[e2];omega
  rw[hx,hy];simp only[eqGuard,binOp,Op.stringOp];rw[if_neg hle];rfl
 rename_i k m k' n hxe hye;split at h<;>try(cases h;done)
 rename_i hk;subst hk;rw[hxe]at hx;rw[hye]at hy;simp only[Rel]at hx hy;have fin:∀v,(binOp op t (.int k m) (.int k n)).run P w=.ok v w->Rel H L r v->aV P H L w a o r:=by intro v hr hrel;refine⟨v,?_,hrel⟩;unfold execOp;simp only[ho];refine qG ?_;rw[Sem.run_bind,hx,hy,zC9,Result.andThen_ok,hr]
 cases op<;>simp only[oU]at h<;>try(cases h;done)
 all_goals (simp only[jA1,jBl]at h;obtain⟨hpp,hrr⟩:=h;subst hrr;subst hpp)
 case h_1.isTrue.add=>exact fin (.int k (k.wrap (m+n))) (by simp[binOp,Op.intArith]) (by simp[Rel])
 case h_1.isTrue.sub=>exact fin (.int k (k.wrap (m-n))) (by simp[binOp,Op.intArith]) (by simp[Rel])
 case h_1.isTrue.mul=>exact fin (.int k (k.wrap (m*n))) (by simp[binOp,Op.intArith]) (by simp[Rel])
 case h_1.isTrue.quo=>exact fin (.int k (k.wrap (m.tdiv n))) (by simp[binOp,Op.intDiv,hp]) (by simp[Rel])
 case h_1.isTrue.rem=>exact fin (.int k (m.tmod n)) (by simp[binOp,Op.intDiv,hp]) (by simp[Rel])
 case h_1.isTrue.lss=>exact fin (.bool (decide (m<n))) (by simp[binOp,Op.intCmp]) (by simp[Rel])
 case h_1.isTrue.leq=>exact fin (.bool (decide (m<=n))) (by simp[binOp,Op.intCmp]) (by simp[Rel])
 case h_1.isTrue.gtr=>exact fin (.bool (decide (n<m))) (by simp[binOp,Op.intCmp]) (by simp[Rel])
 case h_1.isTrue.geq=>exact fin (.bool (decide (n<=m))) (by simp[binOp,Op.intCmp]) (by simp[Rel])
theorem zOg(ho:o.op=.makeInterface t x)(hu:P.underlying t=some u)(hn:∀ms,u≠.interface ms)(he:qI H L N env a.tmps){p:Prop}
 (h:zO env U (.mki o.dst t x)=some (p,r)):aV P H L w a o r:=by
 have hx:=qE he x;simp only[zO,jA1,jBl]at h;obtain⟨_,rfl⟩:=h;refine⟨.iface t (a.eval x),?_,?_⟩
 .unfold execOp;simp only[ho];refine qG ?_;simp only[Instr.makeInterface,Sem.run_bind,run_underlying hu,Result.andThen_ok];cases u<;>first|rfl|exact(hn _ rfl).elim
 .split
  .rename_i v hv;rw[hv]at hx;simp only[Rel]at hx;simp[Rel,hx]
  .simp[Rel]
theorem zOh(ho:o.op=.unOp .neg t x)(he:qI H L N env a.tmps){p:Prop}
 (h:zO env U (.neg o.dst x)=some (p,r)):aV P H L w a o r:=by
 have hx:=qE he x;simp only[zO]at h;split at h<;>try(cases h;done)
 rename_i k m hxe;cases h;rw[hxe]at hx;simp only[Rel]at hx;refine⟨.int k (k.wrap (0-m)),?_,by simp[Rel]⟩;unfold execOp;simp[ho,hx,Op.unary,Op.intArith]
theorem zOi(ho:o.op=.unOp .not t x)(he:qI H L N env a.tmps){p:Prop}
 (h:zO env U (.not o.dst x)=some (p,r)):aV P H L w a o r:=by
 have hx:=qE he x;simp only[zO]at h;split at h<;>try(cases h;done)
 rename_i b hxe;cases h;rw[hxe]at hx;simp only[Rel]at hx;refine⟨.bool !b,?_,by simp[Rel]⟩;unfold execOp;simp[ho,hx,Op.unary]
theorem zOc{i:Nat}(ho:o.op=.extract x i)(he:qI H L N env a.tmps){p:Prop}
 (h:zO env U (.ext o.dst x i)=some (p,r)):aV P H L w a o r:=by
 have hx:=qE he x;simp only[zO]at h;split at h<;>try(cases h;done)
 rename_i cs hxe;rw[hxe]at hx;simp only[Rel]at hx;obtain⟨vs,hv,h1⟩:=hx;simp only[jAe,jBl]at h;obtain⟨r',h3,_,rfl⟩:=h;obtain⟨v,hg,hrel⟩:=h1.get h3;refine⟨v,?_,hrel⟩;unfold execOp;simp[ho,hv,Instr.extract,hg]
theorem zLg(ho:o.op=.nilCheck x)(he:qI H L N env a.tmps){p:Prop}
 (h:zO env U (.nilc o.dst x)=some (p,r)):aV P H L w a o r:=by
 have hx:=qE he x;simp only[zO]at h;split at h<;>try(cases h;done)
 all_goals
  rename_i hxe;cases h;rw[hxe]at hx;have hx':=hx;simp only[Rel]at hx'
 .obtain⟨li,b,_,_,_,hv⟩:=hx';refine⟨_,?_,hx⟩;unfold execOp;simp only[ho,hv];rfl
 .obtain⟨b,o',us,hv,_⟩:=hx';refine⟨_,?_,hx⟩;unfold execOp;simp only[ho,hv];rfl
theorem vB(he:qI H L N env a.tmps):∀(xs:List Operand),z6 H L (xs.map (ev env)) (xs.map a.eval)
 |[]=>jF
 |x::xs=>qF (qE he x) (vB he xs)
theorem zOb{f:FuncId}{first cap:Array Operand}(ho:o.op=.makeFunc (.func f) first cap)(he:qI H L N env a.tmps) :
 aV P H L w a o (.clo f (first.toList.map (ev env)) (cap.toList.map (ev env))):=by
 refine⟨.func (.func f) (first.map a.eval) (cap.map a.eval),?_,?_⟩
 .unfold execOp;simp[ho,Instr.makeFunc]
 .simp only[Rel];refine⟨first.toList.map a.eval,cap.toList.map a.eval,?_,vB he _,vB he _⟩
  congr 1<;>exact jC4 (by simp)
variable{c:Call}
theorem zOf(ho:o.op=.call c)(hc:c.callee=.builtin .len)(ha:c.args.toList=[x])(ht:c.argTypes[0]?=some t)
 (hu:P.underlying t=some (.slice e))(he:qI H L N env a.tmps)(hs:RelSt H L U w){p:Prop}
 (h:zO env U (.len o.dst false x)=some (p,r)):aV P H L w a o r:=by
 have hx:=qE he x;have ha':c.args = #[x]:=by cases hh:c.args;simp_all
 have fin:∀(n:Nat) ad cap,a.eval x=.slice ad n cap->r=.lit (.int .i64 n)->aV P H L w a o r:=by rintro n ad cap hv rfl;refine⟨.int .i64 n,?_,by simp[Rel]⟩;unfold execOp;simp[ho,resolve,hc,invoke,builtin,ha',hv,Builtin.len_,ht,run_underlying hu,goInt]
 simp only[zO]at h;split at h<;>try(cases h;done)
 .rename_i hxe;rw[hxe]at hx;simp only[Rel]at hx;cases h;exact fin 0 _ _ hx rfl
 .rename_i n cs hxe;rw[hxe]at hx;simp only[Rel]at hx;obtain⟨ad,cap,hv,_⟩:=hx;cases h;exact fin n _ _ hv rfl
 .rename_i n cs hxe;rw[hxe]at hx;simp only[Rel]at hx;obtain⟨ad,hv,_⟩:=hx;cases h;exact fin n _ _ hv rfl
 .rename_i l n hxe;rw[hxe]at hx;simp only[Rel]at hx;split at h<;>try(cases h;done)
  rename_i fz e' sz m ds hds;split at h<;>try(cases h;done)
  rename_i hn;cases h;obtain⟨_,li,e1,e2,e3,hv⟩:=hx;have hob:=hs.obj l li _ e1 hds;simp only[zW]at hob;have hv:=hv (by rw[hn,hob.2.1]);cases hb:li.block with
  |none =>
   rw[hb]at hv;rcases hob.2.2.2 with ⟨_,h0⟩|⟨b,cur,hb',_⟩
   .subst hn;subst h0;exact fin _ _ _ hv rfl
   .rw[hb]at hb';cases hb'
  |some b=>rw[hb]at hv;exact fin _ _ _ hv rfl
 .rename_i l n off k' _ hxe;rw[hxe]at hx;simp only[Rel]at hx;split at h<;>try(cases h;done)
  rename_i fz e' sz m ds hds;split at h<;>try(cases h;done)
  rename_i hn;cases h;obtain⟨_,li,e1,e2,e3,hv⟩:=hx;have hob:=hs.obj l li _ e1 hds;simp only[zW]at hob;obtain⟨_,ad,cap,hv,_⟩:=hv (by rw[hn,hob.2.1]);exact fin _ _ _ hv rfl
theorem zLf(ho:o.op=.call c)(hc:c.callee=.builtin .len)(ha:c.args.toList=[x])(ht:c.argTypes[0]?=some t)
 (hu:P.underlying t=some .string)(he:qI H L N env a.tmps){p:Prop}
 (h:zO env U (.len o.dst true x)=some (p,r)):aV P H L w a o r:=by
 have hx:=qE he x;have ha':c.args = #[x]:=by cases hh:c.args;simp_all
 simp only[zO]at h;split at h<;>try(cases h;done)
 rename_i s hxe;rw[hxe]at hx;simp only[Rel]at hx;cases h;refine⟨.int .i64 s.size,?_,by simp[Rel]⟩;unfold execOp;simp[ho,resolve,hc,invoke,builtin,ha',hx,Builtin.len_,ht,run_underlying hu,goInt]
theorem zEo(mx:Bool):∀(xs:wF) (vs:wM) (k:IntKind) (m:Int) (r:A),z6 H L xs vs->tU mx m xs k=some r ->
 ∃v,(vs.foldlM (if mx then Builtin.max2 else Builtin.min2) (.int k m)).run P w=.ok v w/\Rel H L r v
 |[],vs,k,m,r,hr,h=>by have:=qY hr;subst this;simp only[tU,jA1]at h;subst h;exact⟨.int k m,by simp,by simp[Rel]⟩
 |x::xs,vs,k,m,r,hr,h=>by
  obtain⟨u,us,rfl,h1,h2⟩:=zZ hr;unfold tU at h;split at h<;>try(cases h;done)
  .rename_i heq;cases heq
  .rename_i k' b rest heq;cases heq;split at h<;>try(cases h;done)
   rename_i hk;subst hk;simp only[Rel]at h1;subst h1;obtain⟨v,hrun,hrel⟩:=zEo mx xs us k' _ r h2 h;refine⟨v,?_,hrel⟩;rw[List.foldlM_cons,Sem.run_bind];cases mx
   .simpa[Builtin.min2]using hrun
   .simpa[Builtin.max2]using hrun
theorem zIS{mx:Bool}(ho:o.op=.call c)(hc:c.callee=.builtin (if mx then .max else .min))(he:qI H L N env a.tmps){p:Prop}
 (h:zO env U (.mm o.dst mx c.args.toList)=some (p,r)):aV P H L w a o r:=by
 have hx:=vB he c.args.toList;simp only[zO]at h;split at h<;>try(cases h;done)
 rename_i k m rest hm;simp only[jAe,jBl]at h;obtain⟨r',h3,_,rfl⟩:=h;rw[hm]at hx;obtain⟨u,us,e,h1,h2⟩:=zZ hx;simp only[Rel]at h1;subst h1;obtain⟨v,hrun,hrel⟩:=zEo (P:=P) (w:=w) mx rest us k m r' h2 h3;refine⟨v,?_,hrel⟩;unfold execOp;cases mx
 .simp only[jAj,if_false]at hc hrun;simp[ho,resolve,hc,invoke,builtin,Builtin.min_,e,hrun]
 .simp only[if_true]at hc hrun;simp[ho,resolve,hc,invoke,builtin,Builtin.max_,e,hrun]
end
end Go.Abs

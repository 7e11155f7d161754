/-
  The maker's programs: what they are.
  What is proved: the maker of programs returns a typed program, whose nodes have IDs of their own.
  Types of values and of programs' expressions; a run keeps them.
-/
import Derived.Test.YthglhccibdlccaaGreatDoorX38
import Derived.Test.YthglhccibdlccaaGreatDoorX29
import Derived.Test.YthglhccibdlccaaGreatDoorX30
import Derived.Test.YthglhccibdlccaaGreatDoorX31
set_option linter.unusedVariables false
set_option linter.unusedSimpArgs false
namespace Go.Proofs.YthglhccibdlccaaGreatDoor
open Go.Abs
theorem zOW {e:Exp}{c:Int}(hc:c∈tmps e):∀{ks:List Exp},e∈ks→c∈jX ks
 | x::ks,h=>by
  simp only[jX,List.mem_append];rcases List.mem_cons.1 h with rfl | h
  ·exact .inl hc
  ·exact .inr (zOW hc h)
theorem zRf:∀(ks:List Exp),ks.length≤(jX ks).length
 | []=>Nat.le_refl _
 | e::ks=>by
  have:=zRf ks;have h1:1≤(tmps e).length:=by rw[zBA,List.length_append,List.length_singleton]; omega
  simp only[jX,List.length_append,List.length_cons];omega
section
variable {N:Nat}{i:Id}{k n:Int}{r:Id}{t:Typ}{ks:List Exp}{ns:List ByteArray}
theorem yG (hb:∀c∈tmps (.mk i k n r t ks ns),0≤c∧c<N)(hl:(tmps (.mk i k n r t ks ns)).length≤1000000000)(hk:k≠2)(hs:∀e∈ks,e.under N):(Exp.mk i k n r t ks ns).under N:=by simp only[Exp.under,zGU];have:=zRf ks;simp only[tmps,List.length_append,List.length_singleton]at hl;exact⟨hb i.c (by simp[tmps]),fun h=>(hk h).elim,by omega,hs⟩
theorem zAS (hb:∀c∈tmps (.mk i k n r t ks ns),0≤c∧c<N){e:Exp}(he:e∈ks):∀c∈tmps e,0≤c∧c<N:=fun c hc=>hb c (by simp only[tmps,List.mem_append]; exact .inl (zOW hc he))
theorem zAT (hl:(tmps (.mk i k n r t ks ns)).length≤1000000000){e:Exp}(he:e∈ks):(tmps e).length≤1000000000:=by have:=zKW he;simp only[tmps,List.length_append,List.length_singleton]at hl;omega
end
theorem zVy {env:List Bnd}{x:Id}{n:Int}{t:Typ}(h:zCe env x n=some t):∃b∈env,b.id=x∧b.n=n∧b.typ=t:=by simp only[zCe,Option.map_eq_some_iff]at h;obtain⟨b,hb,rfl⟩:=h;have h1:=List.mem_of_find?_eq_some hb;have h2:=List.find?_some hb;simp only[Bool.and_eq_true,decide_eq_true_eq]at h2;exact⟨b,by simpa using h1,h2.1,h2.2,rfl⟩
theorem zWj {hs:List Hd}{own:Int}{N:Nat}{env:List Bnd}{e:Exp}{t:Typ}(h:WT hs own env e t):(∀b∈env,b.id.b=0→0≤b.id.c∧b.id.c<N)→(∀c∈tmps e,0≤c∧c<N)→(tmps e).length≤1000000000→e.under N:=by
 induction h with
 | int env i n h1 h2=>exact fun _ hb hl=>yG hb hl (by omega) (by simp)
 | bool env i n h=>exact fun _ hb hl=>yG hb hl (by omega) (by simp)
 | var env i n x t h =>
  intro he hb hl;simp only[Exp.under,zIH,and_true];obtain⟨b,h1,h2,_,_⟩:=zVy h;exact⟨hb i.c (by simp[tmps]),fun _ h0=>by rw[←h2]at h0 ⊢; exact he b h1 h0,by simp⟩
 | call env i k h ks ho hk hlen hw ih =>
  refine fun he hb hl=>yG hb hl (by omega) fun e hm=>?_
  obtain⟨j,hj,rfl⟩:=List.getElem_of_mem hm;exact ih j hj he (zAS hb hm) (zAT hl hm)
 | arith env i n a b h1 h2 ha hb' iha ihb =>
  refine fun he hb hl=>yG hb hl (by omega) fun e hm=>?_
  have k1:=zAS hb hm;have k2:=zAT hl hm;simp only[List.mem_cons,List.not_mem_nil,or_false]at hm;rcases hm with rfl | rfl
  ·exact iha he k1 k2
  ·exact ihb he k1 k2
 | less env i a b ha hb' iha ihb =>
  refine fun he hb hl=>yG hb hl (by omega) fun e hm=>?_
  have k1:=zAS hb hm;have k2:=zAT hl hm;simp only[List.mem_cons,List.not_mem_nil,or_false]at hm;rcases hm with rfl | rfl
  ·exact iha he k1 k2
  ·exact ihb he k1 k2
 | same env i a b u ha hb' iha ihb =>
  refine fun he hb hl=>yG hb hl (by omega) fun e hm=>?_
  have k1:=zAS hb hm;have k2:=zAT hl hm;simp only[List.mem_cons,List.not_mem_nil,or_false]at hm;rcases hm with rfl | rfl
  ·exact iha he k1 k2
  ·exact ihb he k1 k2
 | andor env i n a b h ha hb' iha ihb =>
  refine fun he hb hl=>yG hb hl (by omega) fun e hm=>?_
  have k1:=zAS hb hm;have k2:=zAT hl hm;simp only[List.mem_cons,List.not_mem_nil,or_false]at hm;rcases hm with rfl | rfl
  ·exact iha he k1 k2
  ·exact ihb he k1 k2
 | not env i a ha iha =>
  refine fun he hb hl=>yG hb hl (by omega) fun e hm=>?_
  have k1:=zAS hb hm;have k2:=zAT hl hm;simp only[List.mem_cons,List.not_mem_nil,or_false]at hm;subst hm;exact iha he k1 k2
 | join env i a b t ha hb' iha ihb =>
  refine fun he hb hl=>yG hb hl (by omega) fun e hm=>?_
  have k1:=zAS hb hm;have k2:=zAT hl hm;simp only[List.mem_cons,List.not_mem_nil,or_false]at hm;rcases hm with rfl | rfl
  ·exact iha he k1 k2
  ·exact ihb he k1 k2
 | len env i a t ha iha =>
  refine fun he hb hl=>yG hb hl (by omega) fun e hm=>?_
  have k1:=zAS hb hm;have k2:=zAT hl hm;simp only[List.mem_cons,List.not_mem_nil,or_false]at hm;subst hm;exact iha he k1 k2
 | ite env i a b c t ha hb' hc iha ihb ihc =>
  refine fun he hb hl=>yG hb hl (by omega) fun e hm=>?_
  have k1:=zAS hb hm;have k2:=zAT hl hm;simp only[List.mem_cons,List.not_mem_nil,or_false]at hm;rcases hm with rfl | rfl | rfl
  ·exact iha he k1 k2
  ·exact ihb he k1 k2
  ·exact ihc he k1 k2
 | lets env i a b u t ns hn ha hb' iha ihb =>
  refine fun he hb hl=>yG hb hl (by omega) fun e hm=>?_
  have k1:=zAS hb hm;have k2:=zAT hl hm;have ki:=hb i.c (by simp[tmps]);simp only[List.mem_cons,List.not_mem_nil,or_false]at hm;rcases hm with rfl | rfl
  ·exact iha he k1 k2
  ·refine ihb (fun b hb0 h0=>?_) k1 k2;rcases List.mem_append.1 hb0 with hb0 | hb0
   ·exact he b hb0 h0
   ·rw[List.mem_singleton.1 hb0]; exact ki
 | record env i k h ks hk hlen hw ih =>
  refine fun he hb hl=>yG hb hl (by omega) fun e hm=>?_
  obtain⟨j,hj,rfl⟩:=List.getElem_of_mem hm;exact ih j hj he (zAS hb hm) (zAT hl hm)
 | field env i k h j hj a hk ha iha =>
  refine fun he hb hl=>yG hb hl (by omega) fun e hm=>?_
  have k1:=zAS hb hm;have k2:=zAT hl hm;simp only[List.mem_cons,List.not_mem_nil,or_false]at hm;subst hm;exact iha he k1 k2
 | case env i k h j hj a hk ha iha =>
  refine fun he hb hl=>yG hb hl (by omega) fun e hm=>?_
  have k1:=zAS hb hm;have k2:=zAT hl hm;simp only[List.mem_cons,List.not_mem_nil,or_false]at hm;subst hm;exact iha he k1 k2
 | mtch env i k h a ks t ns hn hk hlen ha hw iha ih =>
  refine fun he hb hl=>yG hb hl (by omega) fun e hm=>?_
  have k1:=zAS hb hm;have k2:=zAT hl hm;have ki:=hb i.c (by simp[tmps]);rcases List.mem_cons.1 hm with rfl | hm
  ·exact iha he k1 k2
  ·obtain⟨j,hj,rfl⟩:=List.getElem_of_mem hm;refine ih j hj (fun b hb0 h0=>?_) k1 k2;rcases List.mem_append.1 hb0 with hb0 | hb0
   ·exact he b hb0 h0
   ·rw[List.mem_singleton.1 hb0]; exact ki
 | list env i t ks hw ih =>
  refine fun he hb hl=>yG hb hl (by omega) fun e hm=>?_
  obtain⟨j,hj,rfl⟩:=List.getElem_of_mem hm;exact ih j hj he (zAS hb hm) (zAT hl hm)
 | fold env i l s b u t ns hn hl' hs' hb' ihl ihs ihb =>
  refine fun he hb hl=>yG hb hl (by omega) fun e hm=>?_
  have k1:=zAS hb hm;have k2:=zAT hl hm;have ki:=hb i.c (by simp[tmps]);simp only[List.mem_cons,List.not_mem_nil,or_false]at hm;rcases hm with rfl | rfl | rfl
  ·exact ihl he k1 k2
  ·exact ihs he k1 k2
  ·refine ihb (fun b hb0 h0=>?_) k1 k2;rcases List.mem_append.1 hb0 with hb0 | hb0
   ·rcases List.mem_append.1 hb0 with hb0 | hb0
    ·exact he b hb0 h0
    ·rw[List.mem_singleton.1 hb0]; exact ki
   ·rw[List.mem_singleton.1 hb0]; exact ki
structure Renamed (hs:List Hd)(k:Nat)(d:Dfn)(base:Int)(e:Exp)(f:Int→Id):Prop where
 body:d.body=zCh f e
 wt:WT hs k (zBp d) e d.res
 nd:(tmps e).Nodup
 num:e.num0
 len:(tmps e).length≤32768
 ids:∀(j:Nat) (h:j<(tmps e).length),f (tmps e)[j]=idR (base+j)
def nmV (l:List Int):Nat:=(1+atV l 0 2).toNat
theorem zV6 (l:List Int)(hl:∀x∈l,w64 x=x):(nmV l:Int)=1+atV l 0 2∧(nmV l=1∨nmV l=2):=by obtain⟨a,b⟩:=yS (i:=0) hl (most:=2) (by omega);unfold nmV;omega
structure PrgOk (l:List Int)(P:Prg):Prop where
 mods:P.mods=zJk (nmV l) (qD l (nmV l))
 heads:P.defs.map Dfn.hd=hsV l (nmV l)
 bodies:∃base:Nat→Int,base 0=zAz (nmV l) (qD l (nmV l)) (qD l (nmV l)).length∧∀(k:Nat) (d:Dfn),P.defs[k]?=some d →
  (zBL d=false∧d.body=Exp.zero∧base (k+1)=base k)∨(zBL d=true∧∃e f,Renamed (hsV l (nmV l)) k d (base k) e f∧base (k+1)=base k+(tmps e).length)
theorem zZ9 {hs:List Hd}{n:Nat}{ms:Nat→Mk}(hf:∀i<n,zQ5 hs i (ms i) (ms (i+1))):∀i≤n,(ms 0).temp≤(ms i).temp∧(∀j,i≤j→(ms i).defs[j]?=(ms 0).defs[j]?) ∧
 ∀j<i,∀d,(ms 0).defs[j]?=some d→(zBL d=false∧(ms i).defs[j]?=some d)∨(zBL d=true∧∃e lo,(ms i).defs[j]?=some (d.wb e)∧BGood hs j d lo (ms i).temp e∧(ms 0).temp≤lo)
 | 0,_=>⟨Int.le_refl _,fun _ _=>rfl,fun j hj=>by omega⟩
 | i+1,hi=>by
  obtain⟨t,c1,c2⟩:=zZ9 hf i (by omega);obtain⟨d,hd,ht,hc⟩:=hf i (by omega);have hlt:=(List.getElem?_eq_some_iff.1 hd).1;have hd0:=c1 i (Nat.le_refl _);rw[hd]at hd0;rcases hc with ⟨hk,he⟩ | ⟨⟨hk0,hk1⟩,e,he,hg⟩
  ·have hbd:zBL d=false:=by rcases hk with h | h<;>simp[zBL,h]
   refine⟨by omega,fun j hj=>by rw[he]; exact c1 j (by omega),fun j hj d' hd'=>?_⟩;rw[he];by_cases e:j=i
   ·subst e;rw[←hd0]at hd';cases hd';exact .inl ⟨hbd,hd⟩
   ·rcases c2 j (by omega) d' hd' with h | ⟨h,e,lo,h1,h2,h3⟩
    ·exact .inl h
    ·exact .inr ⟨h,e,lo,h1,⟨h2.wt,h2.seg.mono (Int.le_refl _) ht,h2.num,h2.len⟩,h3⟩
  ·have hbd:zBL d=true:=by simp[zBL,hk0,hk1]
   refine⟨by omega,fun j hj=>by rw[he,List.getElem?_set_ne (by omega)]; exact c1 j (by omega),fun j hj d' hd'=>?_⟩;rw[he];by_cases e:j=i
   ·subst e;rw[←hd0]at hd';cases hd';exact .inr ⟨hbd,_,_,List.getElem?_set_self hlt,hg,t⟩
   ·rw[List.getElem?_set_ne (Ne.symm e)];rcases c2 j (by omega) d' hd' with h | ⟨h,e,lo,h1,h2,h3⟩
    ·exact .inl h
    ·exact .inr ⟨h,e,lo,h1,⟨h2.wt,h2.seg.mono (Int.le_refl _) ht,h2.num,h2.len⟩,h3⟩
set_option maxHeartbeats 2000000 in
theorem zYl (l:List Int)(hl:∀x∈l,w64 x=x):∃P:Prg,PrgOk l P∧Ret Tryz.prog 9 [.sl l.length (yF l)] [] (.agg (zU P)) []:=by
 obtain⟨hnm,hnm2⟩:=zV6 l hl;generalize hN:nmV l=nm at *
 have m1:1≤(nm:Int):=by omega
 have m2:(nm:Int)≤2:=by omega
 generalize hps:qD l nm=ps;have h8:=(zAO l nm).2;have h6:=zBs l nm m1 m2 hl;rw[hps]at h8 h6;have hnr:=zCR (mods:=nm) (ps:=ps) (by omega) (fun p hp=>(h6 p hp).t6) ps.length;generalize hM:zJk nm ps=M;obtain⟨m0,hm0⟩:∃m0:Mk,m0={mods:=M,defs:=zDG nm ps,l:=l,at_:=24,temp:=0,left:=0,own:=0,home:=Id.zero,name:=0}:=⟨_,rfl⟩;have hi0:BInv l nm 0 m0:=by rw[hm0];exact⟨by rw[hsV,hps]; rfl,by rw[hps,hM],rfl,by simp,by simp,by simp,by simp⟩
 obtain⟨ms,b0,b1,b2⟩:=zRJ m1 m2 hl m0 hi0;rw[hps]at b1 b2;have hds0:(ms 0).defs=zDG nm ps:=by rw[b0,hm0]
 have ht0:(ms 0).temp=0:=by rw[b0,hm0]
 have hlen:∀i≤ps.length,(ms i).defs.length=ps.length:=fun i hi=>by
  have:=congrArg List.length (b1 i hi).heads
  simpa [hps] using this
 have hslots:∀i≤ps.length,∀d∈(ms i).defs,d.slots.length≤6:=fun i hi d hd=>by obtain⟨j,hj,rfl⟩:=List.getElem_of_mem hd;have:=zIk m1 m2 hl (i:=j) (d:=(ms i).defs[j]) (by rw[←(b1 i hi).heads,List.getElem?_map,List.getElem?_eq_getElem hj]; rfl) 0;have h6:=this.2.2.1;rw[zHp]at h6;exact h6
 obtain⟨c0,_,c2⟩:=zZ9 (fun i hi=>(b2 i hi).2) ps.length (Nat.le_refl _);rw[ht0]at c0 c2;have htn:=(b1 ps.length (Nat.le_refl _)).temp1;obtain⟨N,hNn⟩:∃N:Nat,(ms ps.length).temp=N:=⟨(ms ps.length).temp.toNat,by omega⟩;have hhd:=(b1 ps.length (Nat.le_refl _)).heads;have hbody:∀(k:Nat) (d:Dfn),(ms ps.length).defs[k]?=some d→(zBL d=false∧d.body=Exp.zero)∨(zBL d=true∧WT (hsV l nm) k (zBp d) d.body d.res∧(tmps d.body).Nodup∧d.body.num0∧(tmps d.body).length≤32768∧∀c∈tmps d.body,0≤c∧c<N):=fun k d hd=>by
  have hk:=(List.getElem?_eq_some_iff.1 hd).1;rw[hlen _ (Nat.le_refl _)]at hk;have hd0:(ms 0).defs[k]?=some (zNE nm (zAz nm ps k) k ps[k]):=by rw[hds0,List.getElem?_eq_getElem (by simpa using hk),zIg nm ps hk]
  rcases c2 k hk _ hd0 with ⟨h1,h2⟩ | ⟨h1,e,lo,h2,h3,h4⟩
  ·rw[h2]at hd;cases hd;exact .inl ⟨h1,rfl⟩
  ·rw[h2]at hd;cases hd;refine .inr ⟨h1,h3.wt,h3.seg.nd,h3.num,h3.len,fun c hc=>?_⟩;have:=h3.seg.rng c hc;omega
 have hunder:∀d∈(ms ps.length).defs,zBL d=true→d.body.under N∧(∀c∈tmps d.body,0≤c∧c<N)∧(tmps d.body).length≤1000000:=fun d hd hbd=>by
  obtain⟨k,hk,rfl⟩:=List.getElem_of_mem hd;have hg:(ms ps.length).defs[k]?=some (ms ps.length).defs[k]:=List.getElem?_eq_getElem hk;rcases hbody k _ hg with ⟨h,_⟩ | ⟨_,h1,h2,h3,h4,h5⟩
  ·rw[hbd]at h; cases h
  ·refine⟨zWj h1 (fun b hb h0=>?_) h5 (by omega),h5,by omega⟩;have:=(zIk m1 m2 hl (i:=k) (d:=(ms ps.length).defs[k]) (by rw[←hhd,List.getElem?_map,hg]; rfl) 0).1.new b hb h0;exfalso;have hn:=(zIk m1 m2 hl (i:=k) (d:=(ms ps.length).defs[k]) (by rw[←hhd,List.getElem?_map,hg]; rfl) (b.id.c-0)).1.new b hb h0;omega
 obtain⟨s,hs⟩:∃s:NSt,s=⟨(ms ps.length).defs,zCD N,zAz nm ps ps.length⟩:=⟨_,rfl⟩;have hsd:s.ds=(ms ps.length).defs:=by rw[hs]
 have hsi:s.ids.length=N:=by rw[hs]; simp[zCD]
 have hsn:s.next=zAz nm ps ps.length:=by rw[hs]
 refine⟨⟨M,(zBj s ps.length).ds⟩,⟨by rw[hN,hps,hM],?_,fun k=>(zBj s k).next,?_,fun k d hd=>?_⟩,?_⟩
 ·rw[hN,zKx,hsd,hhd]
 ·rw[hN,hps]; exact hsn
 ·rw[hN];have hk:=(List.getElem?_eq_some_iff.1 hd).1;have hl1:=(zF8 s ps.length).1;rw[hsd,hlen _ (Nat.le_refl _)]at hl1;simp only at hk hd;rw[hl1]at hk;rw[zMf s ps.length hk]at hd;have hg:s.ds[k]?=some ((ms ps.length).defs[k]'(by rw[hlen _ (Nat.le_refl _)]; exact hk)):=by rw[hsd]; exact List.getElem?_eq_getElem _
  have hst:=zIx s hg;have hcur:(zBj s k).ds[k]?=s.ds[k]?:=zEL s k k (Nat.le_refl _);rw[hg]at hcur;have hil:=(zF8 s k).2;rw[hsi]at hil;have hb:=hbody k _ (List.getElem?_eq_getElem (by rw[hlen _ (Nat.le_refl _)]; exact hk));generalize (ms ps.length).defs[k]'(by rw[hlen _ (Nat.le_refl _)]; exact hk)=d' at *
  dsimp only
  rw[hst]at hd ⊢;rcases hb with ⟨h1,h2⟩ | ⟨h1,h2,h3,h4,h5,h6⟩
  ·rw[if_neg (by simp[h1])]at hd ⊢;rw[hcur]at hd;cases hd;exact .inl ⟨h1,h2,rfl⟩
  ·rw[if_pos h1]at hd ⊢;simp only at hd ⊢;rw[List.getElem?_set_self (List.getElem?_eq_some_iff.1 hcur).1]at hd;cases hd;refine .inr ⟨h1,d'.body,_,⟨rfl,h2,h3,h4,h5,fun j hj=>?_⟩,rfl⟩;exact zOQ _ _ _ h3 (fun x hx=>by rw[hil]; exact h6 x hx) j hj
 ·have hp6:∀p∈ps,p.types.length≤6:=fun p hp=>(h6 p hp).t6
  have hD:=qIM (ms ps.length) M (zAz nm ps ps.length) N hNn (by omega) (by omega) (by omega) (by rw[hlen _ (Nat.le_refl _)]; omega) hunder;rw[←hs,hlen _ (Nat.le_refl _)]at hD;have hC:=qIL l M ps.length (by omega) (zAz nm ps ps.length) m0 (by rw[hm0]) ms b0 hlen hslots (fun i hi=>(b2 i hi).1) ⟨M,(zBj s ps.length).ds⟩ (by rw[hlen _ (Nat.le_refl _)]; exact hD);have hm0d:m0.defs=zDG nm ps:=by rw[hm0]
  rw[hm0d]at hC;have hB:=qIK l hl nm hnm2 ps hps.symm ⟨M,(zBj s ps.length).ds⟩ (by rw[hM]; exact hC);have ha:=zB2 l 0 2 (by omega);have wn:IntKind.i64.wrap (1+atV l 0 2)=nm:=by rw[←hnm]; exact IntWalk.i64_in _ (by omega)
  refine zH Tryz.func9 rfl qMl (rs:=[.cell 2 2 true]) (by kernel_rfl) ?_;unfold qF1;simp;refine zR ha (by simp) (by simp) ?_;simp[wn];refine qZ (S:=Nat) (fun i=>[(0,.sl l.length (yF l)),(2,.ptr 0 0),(3,int nm),(4,.ptr 1 0),(5,int i)])
   (fun i=>[.box [.nil,.nil],.box [.row 2 i,.row 3 0],.row false 84 6 i (MC i),.row false 39 31 0 []]) (fun i=>i≤nm) (fun i=>nm-i) 0 (by simp)
   (((zAf (l:=1) (o:=0) rfl rfl 84 6).trans (zAf (l:=1) (o:=1) rfl rfl 39 31)).trans (zS [0,1,2,3] 0 (by decide) (by simp) (by simp[MC]) (by simp))) ?_
  intro i hi;by_cases h:i<nm
  ·have hi2:i=0∨i=1:=by omega
   have k0:=zFc 0;have k1:=zFc i;rcases hi2 with rfl | rfl
   ·have k1':Ret Tryz.prog 32 [int 0] [] (.agg (qX (idR 0))) []:=k0;simp[h,MC];refine zA3 k1' (by simp) (by simp) ?_;simp[h,qX];refine⟨by simp[maxLen],?_⟩;exact zT 1 h (by omega) (zS [0,1,2,3] 0 (by decide) (by simp) (by simp[MC,m0C]) (by simp[show IntKind.i64.wrap 1=1 by decide]))
   ·have hn2:nm=2:=by omega
    subst hn2;have k1':Ret Tryz.prog 32 [int 1] [] (.agg (qX (idR 1))) []:=zFc 1;simp[MC];refine zA3 k1' (by simp) (by simp) ?_;simp[qX];refine zR k0 (by simp) (by simp) ?_;simp[qX];refine⟨by simp[maxLen],?_⟩;exact zT 2 (by omega) (by omega) (zS [0,1,2,3] 0 (by decide) (by simp) (by simp[MC,m0C,m1C,qX]) (by simp[show IntKind.i64.wrap 2=2 by decide]))
  ·have hie:i=nm:=by omega
   subst hie;simp;exact⟨_,_,zS [0,1,2,3] 0 (by decide) (by simp) (by rcases hnm2 with rfl | rfl<;>simp[MC,m0C,m1C,qX]) (by simp),hB⟩
inductive TyV (p:Prg):Typ→Val→Prop
 | int (n:Int) (h1 : -1099511627776≤n) (h2:n≤1099511627776):TyV p jK (.mk 0 n [])
 | bool (n:Int) (h:n=0∨n=1):TyV p jT (.mk 1 n [])
 | list (t:Typ) (vs:List Val) (h:∀v∈vs,TyV p t v):TyV p (jM t) (.mk 4 0 vs)
 | record (id:Id) (d:Dfn) (vs:List Val) (hd:yC p.defs id=some d) (hk:d.kind=0) (hl:vs.length=d.slots.length) (h:∀(j:Nat) (hj:j<vs.length),TyV p (d.slots[j]'(hl▸hj)).typ vs[j]):TyV p (zBm id) (.mk 2 0 vs)
 | case (id:Id) (d:Dfn) (n:Nat) (v:Val) (hd:yC p.defs id=some d) (hk:d.kind=1) (hn:n<d.slots.length) (h:TyV p d.slots[n].typ v):TyV p (zBm id) (.mk 3 n [v])
theorem TyV.int_inv {p:Prg}{v:Val}(h:TyV p jK v):∃n:Int,v=.mk 0 n []∧-1099511627776≤n∧n≤1099511627776:=by
 generalize ht:jK=t at h;cases h with
 | int n h1 h2=>exact⟨n,rfl,h1,h2⟩
 | _=>simp at ht
theorem TyV.bool_inv {p:Prg}{v:Val}(h:TyV p jT v):∃n:Int,v=.mk 1 n []∧(n=0∨n=1):=by
 generalize ht:jT=t at h;cases h with
 | bool n h=>exact⟨n,rfl,h⟩
 | _=>simp at ht
theorem TyV.list_inv {p:Prg}{u:Typ}{v:Val}(h:TyV p (jM u) v):∃vs:List Val,v=.mk 4 0 vs∧∀x∈vs,TyV p u x:=by
 generalize ht:jM u=t at h;cases h with
 | list t vs h =>
  simp only[Typ.mk.injEq,List.cons.injEq,and_true,true_and]at ht;subst ht;exact⟨vs,rfl,h⟩
 | _=>simp at ht
theorem TyV.def_inv {p:Prg}{r:Id}{d:Dfn}{v:Val}(hd:yC p.defs r=some d)(h:TyV p (zBm r) v) :
 (d.kind=0∧∃(vs:List Val) (hl:vs.length=d.slots.length),v=.mk 2 0 vs∧∀(j:Nat) (hj:j<vs.length),TyV p (d.slots[j]'(hl▸hj)).typ vs[j]) ∨
 (d.kind=1∧∃(n:Nat) (x:Val) (hn:n<d.slots.length),v=.mk 3 n [x]∧TyV p d.slots[n].typ x):=by
 generalize ht:zBm r=t at h;cases h with
 | record id d' vs hd' hk hl h =>
  simp only[Typ.mk.injEq,and_true,true_and]at ht;subst ht;rw[hd]at hd';cases hd';exact .inl ⟨hk,vs,hl,rfl,h⟩
 | case id d' n x hd' hk hn h =>
  simp only[Typ.mk.injEq,and_true,true_and]at ht;subst ht;rw[hd]at hd';cases hd';exact .inr ⟨hk,n,x,hn,rfl,h⟩
 | _=>simp at ht
inductive TyL (p:Prg):List Typ→List Val→Prop
 | nil:TyL p [] []
 | cons (t:Typ) (ts:List Typ) (v:Val) (vs:List Val) (h:TyV p t v) (hs:TyL p ts vs):TyL p (t::ts) (v::vs)
theorem TyL.len {p:Prg}{ts:List Typ}{vs:List Val}(h:TyL p ts vs):vs.length=ts.length:=by
 induction h with
 | nil=>rfl
 | cons _ _ _ _ _ _ ih=>simp[ih]
theorem TyL.get {p:Prg}{ts:List Typ}{vs:List Val}(h:TyL p ts vs):∀(j:Nat) (hj:j<vs.length) (hj':j<ts.length),TyV p ts[j] vs[j]:=by
 induction h with
 | nil=>intro j hj; simp at hj
 | cons t ts v vs h hs ih =>
  intro j hj hj';cases j with
  | zero=>exact h
  | succ j=>exact ih j (by simpa using hj) (by simpa using hj')
theorem TyL.of {p:Prg}:∀{ts:List Typ} {vs:List Val} (hl:vs.length=ts.length) (_:∀(j:Nat) (hj:j<vs.length),TyV p (ts[j]'(hl▸hj)) vs[j]),TyL p ts vs
 | [],[],_,_=>.nil
 | t::ts,v::vs,hl,h=>.cons t ts v vs (h 0 (by simp)) (TyL.of (by simpa using hl) fun j hj=>h (j+1) (by simpa using hj))
 | [],v::vs,hl,_=>by simp at hl
 | t::ts,[],hl,_=>by simp at hl
inductive OpT:Int→List Typ→Typ→Prop
 | arith (n:Int) (h1:0≤n) (h2:n≤4):OpT n [jK,jK] jK
 | less:OpT 5 [jK,jK] jT
 | same (u:Typ):OpT 6 [u,u] jT
 | andor (n:Int) (h:n=7∨n=8):OpT n [jT,jT] jT
 | not:OpT 9 [jT] jT
 | join (t:Typ):OpT 10 [jM t,jM t] (jM t)
 | len (t:Typ):OpT 11 [jM t] jK
theorem TyL.one {p:Prg}{t:Typ}{vs:List Val}(h:TyL p [t] vs):∃a,vs=[a]∧TyV p t a:=by
 cases h with
 | cons _ _ v vs h hs=>cases hs; exact⟨v,rfl,h⟩
theorem TyL.two {p:Prg}{t u:Typ}{vs:List Val}(h:TyL p [t,u] vs):∃a b,vs=[a,b]∧TyV p t a∧TyV p u b:=by
 cases h with
 | cons _ _ v vs h hs =>
  obtain⟨b,rfl,hb⟩:=hs.one;exact⟨v,b,rfl,h,hb⟩
theorem zHN {p:Prg}(b:Bool):TyV p jT (zBB b):=.bool _ (by cases b<;>simp)
theorem zFr (n:Int) : -1099511627776≤zB3 n∧zB3 n≤1099511627776:=by
 unfold zB3;split
 ·omega
 ·split<;>omega
theorem zR3 {a b:Int}(h1 : -1099511627776≤a)(h2:a≤1099511627776) : -1099511627776≤a.tdiv b∧a.tdiv b≤1099511627776:=by have h:=Int.natAbs_tdiv_le_natAbs a b;omega
theorem zSU {a b:Int}(h1 : -1099511627776≤a)(h2:a≤1099511627776)(hm:a.tmod b≠0)(hb:b≠0) : -1099511627775≤a.tdiv b:=by
 have hn:a.natAbs / b.natAbs=(a.tdiv b).natAbs:=by rw[Int.natAbs_tdiv]; rfl
 have hb2:2≤b.natAbs:=by
  rcases Nat.lt_or_ge b.natAbs 2 with h | h
  ·exfalso;have:b=1∨b = -1:=by omega
   rcases this with rfl | rfl
   ·simp at hm
   ·exact hm (by rw[Int.tmod_neg,Int.tmod_one])
  ·exact h
 have:a.natAbs / b.natAbs≤a.natAbs / 2:=Nat.div_le_div_left hb2 (by omega);omega
theorem zP5 {a:Int}(b:Int)(h1 : -1099511627776≤a)(h2:a≤1099511627776) : -1099511627776≤zGB a b∧zGB a b≤1099511627776:=by
 unfold zGB;have h:=zR3 (b:=b) h1 h2;split
 ·omega
 ·rename_i hb;split
  ·rename_i hc;have:=zSU h1 h2 hc.1 hb;omega
  ·omega
theorem zYo (a b:Int):zNd a b=if b=0 then 0 else if a.tmod b≠0∧¬(a<0↔b<0) then a.tmod b+b else a.tmod b:=by
 unfold zNd zGB;by_cases hb:b=0
 ·simp[hb]
 ·rw[if_neg hb,if_neg hb,if_neg hb];have:=Int.mul_tdiv_add_tmod a b;split
  ·rw[Int.mul_sub]; omega
  ·omega
theorem zKG {a b:Int}(h1 : -1099511627776≤b)(h2:b≤1099511627776) : -1099511627776≤zNd a b∧zNd a b≤1099511627776:=by
 rw[zYo];by_cases hb:b=0
 ·simp[hb]
 ·rw[if_neg hb];have h3:(a.tmod b).natAbs<b.natAbs:=by rw[Int.natAbs_tmod]; exact Nat.mod_lt _ (by omega)
  have h4:0≤a→0≤a.tmod b:=Int.tmod_nonneg b;have h5:a<0→a.tmod b≤0:=fun h=>by have:=Int.tmod_nonneg (a:=-a) b (by omega);rw[Int.neg_tmod]at this;omega
  split<;>omega
theorem zQa {n a b:Int}(a1 : -1099511627776≤a)(a2:a≤1099511627776)(b1 : -1099511627776≤b)(b2:b≤1099511627776) : -1099511627776≤zLz n a b∧zLz n a b≤1099511627776:=by
 unfold zLz;split
 ·exact zFr _
 ·split
  ·exact zFr _
  ·split
   ·exact zFr _
   ·split
    ·exact zP5 b a1 a2
    ·exact zKG b1 b2
theorem zD3:∀(l:List Val),l.length≤qV l
 | []=>by simp[qV]
 | .mk _ _ l'::l=>by have:=zD3 l; simp only[List.length_cons,qV,qH]; omega
theorem zVq {v:Val}(h:qH v≤256):v.kids.length≤255:=by
 cases v with
 | mk k n l =>
  have:=zD3 l;simp only[qH]at h;simp only[Val.kids];omega
theorem qI8 {p:Prg}{n:Int}{ts:List Typ}{t:Typ}(h:OpT n ts t){vs:List Val}(hv:TyL p ts vs)(hs:∀v∈vs,qH v≤256):TyV p t (opV n vs)∧qH (opV n vs)≤1000:=by
 cases h with
 | arith n h1 h2 =>
  obtain⟨a,b,rfl,ha,hb⟩:=hv.two;obtain⟨x,rfl,x1,x2⟩:=ha.int_inv;obtain⟨y,rfl,y1,y2⟩:=hb.int_inv;simp only[opV,if_pos h2];have:=zQa (n:=n) x1 x2 y1 y2;exact⟨.int _ this.1 this.2,by simp[qH,qV]⟩
 | less =>
  obtain⟨a,b,rfl,ha,hb⟩:=hv.two;exact⟨zHN _,by simp[opV,zBB,qH,qV]⟩
 | same u =>
  obtain⟨a,b,rfl,ha,hb⟩:=hv.two;exact⟨zHN _,by simp[opV,zBB,qH,qV]⟩
 | andor n h =>
  obtain⟨a,b,rfl,ha,hb⟩:=hv.two;rcases h with rfl | rfl<;>exact⟨zHN _,by simp[opV,zBB,qH,qV]⟩
 | not =>
  obtain⟨a,rfl,ha⟩:=hv.one;exact⟨zHN _,by simp[opV,zBB,qH,qV]⟩
 | join t =>
  obtain⟨a,b,rfl,ha,hb⟩:=hv.two;obtain⟨x,rfl,hx⟩:=ha.list_inv;obtain⟨y,rfl,hy⟩:=hb.list_inv;refine⟨.list _ _ fun v hv=>?_,?_⟩
  ·rcases List.mem_append.1 hv with h | h
   ·exact hx v h
   ·exact hy v h
  ·have h1:=hs (.mk 4 0 x) (by simp);have h2:=hs (.mk 4 0 y) (by simp);simp only[qH]at h1 h2;simp[opV,Val.kids,qH,zBS];omega
 | len t =>
  obtain⟨a,rfl,ha⟩:=hv.one;have:=zVq (hs a (by simp));exact⟨.int _ (by omega) (by omega),by simp[opV,qH,qV]⟩
inductive WE (p:Prg):List Bnd→Exp→Typ→Prop
 | int (env i n r u ns) (h1 : -1099511627776≤n) (h2:n≤1099511627776):WE p env (.mk i 0 n r u [] ns) jK
 | bool (env i n r u ns) (h:n=0∨n=1):WE p env (.mk i 1 n r u [] ns) jT
 | var (env i n r u ns t) (h:zCe env r n=some t):WE p env (.mk i 2 n r u [] ns) t
 | call (env i n r u ks ns) (hn:ks.length≤32768) (d:Dfn) (hd:yC p.defs r=some d) (hk:d.kind=2) (hl:ks.length=(d.slots.map Slt.typ).length) (hw:∀(j:Nat) (hj:j<ks.length),WE p env ks[j] ((d.slots.map Slt.typ)[j]'(hl▸hj))) :
  WE p env (.mk i 3 n r u ks ns) d.res
 | op (env i n r u ks ns) (hn:ks.length≤32768) (ts:List Typ) (t:Typ) (ho:OpT n ts t) (hl:ks.length=ts.length) (hw:∀(j:Nat) (hj:j<ks.length),WE p env ks[j] (ts[j]'(hl▸hj))):WE p env (.mk i 4 n r u ks ns) t
 | ite (env i n r u a b c ns t) (ha:WE p env a jT) (hb:WE p env b t) (hc:WE p env c t):WE p env (.mk i 5 n r u [a,b,c] ns) t
 | lets (env i n r u a b ns v t) (hf:∀x∈env,x.id≠i) (ha:WE p env a v) (hb:WE p (env++[⟨i,0,v⟩]) b t):WE p env (.mk i 6 n r u [a,b] ns) t
 | record (env i n r u ks ns) (hn:ks.length≤32768) (d:Dfn) (hd:yC p.defs r=some d) (hk:d.kind=0) (hl:ks.length=(d.slots.map Slt.typ).length) (hw:∀(j:Nat) (hj:j<ks.length),WE p env ks[j] ((d.slots.map Slt.typ)[j]'(hl▸hj))) :
  WE p env (.mk i 7 n r u ks ns) (zBm r)
 | field (env i r u a ns) (d:Dfn) (j:Nat) (hd:yC p.defs r=some d) (hk:d.kind=0) (hj:j<d.slots.length) (ha:WE p env a (zBm r)):WE p env (.mk i 8 j r u [a] ns) d.slots[j].typ
 | case (env i r u a ns) (d:Dfn) (j:Nat) (hd:yC p.defs r=some d) (hk:d.kind=1) (hj:j<d.slots.length) (ha:WE p env a d.slots[j].typ):WE p env (.mk i 9 j r u [a] ns) (zBm r)
 | mtch (env i n r u a ks ns) (d:Dfn) (t:Typ) (hf:∀x∈env,x.id≠i) (hd:yC p.defs r=some d) (hk:d.kind=1) (hl:ks.length=d.slots.length) (ha:WE p env a (zBm r))
  (hw:∀(j:Nat) (hj:j<ks.length),WE p (env++[⟨i,j,(d.slots[j]'(hl▸hj)).typ⟩]) ks[j] t):WE p env (.mk i 10 n r u (a::ks) ns) t
 | list (env i n r u ks ns t) (hn:ks.length≤32768) (hw:∀(j:Nat) (hj:j<ks.length),WE p env ks[j] t):WE p env (.mk i 11 n r u ks ns) (jM t)
 | fold (env i n r u l s b ns v t) (hf:∀x∈env,x.id≠i) (hl:WE p env l (jM v)) (hs:WE p env s t) (hb:WE p (env++[⟨i,0,v⟩]++[⟨i,1,t⟩]) b t):WE p env (.mk i 12 n r u [l,s,b] ns) t
theorem zEJ (B:List Bnd)(b:Bnd)(x:Id)(n:Int):zCe (B++[b]) x n=if b.id=x∧b.n=n then some b.typ else zCe B x n:=by
 unfold zCe;rw[List.reverse_append,List.reverse_singleton,List.singleton_append,List.find?_cons];by_cases h1:b.id=x
 ·by_cases h2:b.n=n<;>simp[h1,h2]
 ·simp[h1]
inductive EnvT (p:Prg):List Bnd→List EVar→Prop
 | nil:EnvT p [] []
 | snoc (B:List Bnd) (V:List EVar) (b:Bnd) (v:EVar) (h:EnvT p B V) (hi:v.id=b.id) (hn:v.n=b.n) (ht:TyV p b.typ v.v) (hz:qH v.v≤256):EnvT p (B++[b]) (V++[v])
theorem EnvT.find {p:Prg}{B:List Bnd}{V:List EVar}(h:EnvT p B V){x:Id}{n:Int}{t:Typ}:zCe B x n=some t→TyV p t (zEf V x n)∧qH (zEf V x n)≤256:=by
 induction h with
 | nil=>intro h; simp[zCe]at h
 | snoc B V b v h hi hn ht hz ih =>
  rw[zEJ,zKf,hi,hn];split
  ·intro e; cases e; exact⟨ht,hz⟩
  ·exact ih
theorem EnvT.push {p:Prg}{B:List Bnd}{V:List EVar}(h:EnvT p B V){i:Id}{n:Int}{t:Typ}{v:Val}(ht:TyV p t v∧qH v≤256):EnvT p (B++[⟨i,n,t⟩]) (V++[⟨i,n,v⟩]):=.snoc _ _ _ _ h rfl rfl ht.1 ht.2
theorem EnvT.len {p:Prg}{B:List Bnd}{V:List EVar}(h:EnvT p B V):V.length=B.length:=by
 induction h with
 | nil=>rfl
 | snoc _ _ _ _ _ _ _ _ _ ih=>simp[ih]
theorem EnvT.ids {p:Prg}{B:List Bnd}{V:List EVar}(h:EnvT p B V){i:Id}:(∀b∈B,b.id≠i)→∀v∈V,v.id≠i:=by
 induction h with
 | nil=>simp
 | snoc B V b v h hi hn ht hz ih =>
  intro hb x hx;rcases List.mem_append.1 hx with hx | hx
  ·exact ih (fun y hy=>hb y (List.mem_append_left _ hy)) x hx
  ·rw[List.mem_singleton.1 hx,hi];exact hb b (by simp)
theorem EnvT.args {p:Prg}:∀{ss:List Slt} {vs:List Val},TyL p (ss.map Slt.typ) vs→(∀v∈vs,qH v≤256)→EnvT p (ss.map fun s=>⟨s.id,0,s.typ⟩) (zBF ss vs):=by
 intro ss;induction ss using zBy with
 | nil =>
  intro vs h _;cases h;exact .nil
 | snoc ss s ih =>
  intro vs h hz;have hl:=h.len;simp only[List.length_map,List.length_append,List.length_singleton]at hl;obtain⟨ws,w,rfl⟩:∃ws w,vs=ws++[w]:=⟨vs.dropLast,vs.getLast (fun e=>by rw[e]at hl; simp at hl),(List.dropLast_concat_getLast _).symm⟩;simp only[List.length_append,List.length_singleton]at hl;have h1:TyL p (ss.map Slt.typ) ws:=TyL.of (by simp; omega) fun j hj=>by have:=h.get j (by simp; omega) (by simp; omega);rw[List.getElem_append_left hj]at this;rw[List.getElem_map]at this ⊢;rw[List.getElem_append_left (by omega)]at this;exact this
  have h2:TyV p s.typ w:=by
   have:=h.get ss.length (by simp; omega) (by simp);rw[List.getElem_append_right (by omega)]at this
   simpa [show ss.length-ws.length=0 by omega] using this
  have e:zBF (ss++[s]) (ws++[w])=zBF ss ws++[⟨s.id,0,w⟩]:=by unfold zBF;rw[List.zipWith_append (by omega)];rfl
  rw[e,List.map_append];exact(ih h1 fun v hv=>hz v (List.mem_append_left _ hv)).push ⟨h2,hz w (by simp)⟩
def zPf (p:Prg):Prop:=∀(r:Id) (d:Dfn),yC p.defs r=some d→zBL d=true→WE p (zBp d) d.body d.res
section
variable {p:Prg}{ev:Evl}
def zFf (ev:Evl):Prop:=∀e V s,s.fail≠0→ev e V s=(vz,s)
def Snd (p:Prg)(ev:Evl):Prop:=∀e B V s t,WE p B e t→EnvT p B V→(ev e V s).2.fail=0→TyV p t (ev e V s).1∧qH (ev e V s).1≤256
theorem zEe (h:zFf ev)(V:List EVar):∀(l:List Exp) (s:XS),s.fail≠0→(qK ev V l s).2=s
 | [],s,_=>rfl
 | e::l,s,hs=>by simp only[qK,h e V s hs]; exact zEe h V l s hs
theorem zWz (h:zFf ev){V:List EVar}{e:Exp}{l:List Exp}{s:XS}(hs:(qK ev V (e::l) s).2.fail=0):(ev e V s).2.fail=0:=by
 by_cases hf:(ev e V s).2.fail=0
 ·exact hf
 ·simp only[qK]at hs;rw[zEe h V l _ hf]at hs;exact hs
theorem zC5 (h:zFf ev)(V:List EVar)(i:Id)(b:Exp):∀(l:List Val) (r:Val×XS),r.2.fail≠0→(jR ev V i b l r).2=r.2
 | [],r,_=>rfl
 | x::l,r,hs=>by simp only[jR,h _ _ _ hs];exact zC5 h V i b l _ hs
theorem zDf (h:zFf ev)(k:Snd p ev){B:List Bnd}{V:List EVar}(hV:EnvT p B V):∀(l:List Exp) (ts:List Typ) (s:XS) (hl:l.length=ts.length),(∀(j:Nat) (hj:j<l.length),WE p B l[j] (ts[j]'(hl▸hj))) →
 (qK ev V l s).2.fail=0→TyL p ts (qK ev V l s).1∧∀v∈(qK ev V l s).1,qH v≤256
 | [],[],s,_,_,_=>⟨.nil,by simp[qK]⟩
 | [],t::ts,s,hl,_,_=>by simp at hl
 | e::l,[],s,hl,_,_=>by simp at hl
 | e::l,t::ts,s,hl,hw,hs=>by
  have h1:=k e B V s t (hw 0 (by simp)) hV (zWz h hs);have h2:=zDf h k hV l ts (ev e V s).2 (by simpa using hl) (fun j hj=>hw (j+1) (by simpa using hj)) (by simpa only[qK] using hs);simp only[qK];refine⟨.cons _ _ _ _ h1.1 h2.1,fun v hv=>?_⟩;rcases List.mem_cons.1 hv with rfl | hv
  ·exact h1.2
  ·exact h2.2 v hv
theorem zHz (h:zFf ev)(k:Snd p ev){B:List Bnd}{V:List EVar}(hV:EnvT p B V){i:Id}{b:Exp}{u t:Typ}(hb:WE p (B++[⟨i,0,u⟩]++[⟨i,1,t⟩]) b t):∀(l:List Val) (r:Val×XS),(∀x∈l,TyV p u x∧qH x≤256) →
 (r.2.fail=0→TyV p t r.1∧qH r.1≤256)→(jR ev V i b l r).2.fail=0→TyV p t (jR ev V i b l r).1∧qH (jR ev V i b l r).1≤256
 | [],r,_,hr,hs=>hr hs
 | x::l,r,hl,hr,hs=>by
  simp only[jR]at hs ⊢;have h0:r.2.fail=0:=by
   by_cases hf:r.2.fail=0
   ·exact hf
   ·have e:=zC5 h V i b l (vz,r.2) hf;rw[h _ _ _ hf,e]at hs;exact hs
  exact zHz h k hV hb l _ (fun y hy=>hl y (List.mem_cons_of_mem _ hy)) (fun hf=>k b _ _ _ t hb ((hV.push (hl x (by simp))).push (hr h0)) hf) hs
theorem zEx {c:Bool}{s:XS}{v:Val}(h:s.fail=0):zf c s v=v:=by simp[zf,h]
theorem zVZ {v:Val}(h:qH v≤10000000)(hb:¬zPm v):qH v≤256:=by have h1:=zIF v (by omega);unfold zPm at hb;omega
theorem zCs {v x:Val}(h:qH v≤256)(hx:x∈v.kids):qH x≤256:=by have:=zAu hx; omega
theorem zOS {l:List Val}(h:∀v∈l,qH v≤256)(hl:l.length≤32768):qV l≤8388608:=by have:=zGo h;have:l.length*256≤32768*256:=Nat.mul_le_mul_right _ hl;omega
theorem up {t:Typ}{v:Val}(h:TyV p t v∧qH v≤256):TyV p t v∧qH v≤10000000:=⟨h.1,by omega⟩
theorem zWm (hp:zPf p)(fl:Nat)(h:zFf ev)(k:Snd p ev){e:Exp}{B:List Bnd}{V:List EVar}{s:XS}{t:Typ}(he:WE p B e t)(hV:EnvT p B V)(hs:(qJ p fl ev e V s).2.fail=0):TyV p t (qJ p fl ev e V s).1∧qH (qJ p fl ev e V s).1≤10000000:=by
 cases he with
 | int _ i n r u ns h1 h2=>exact⟨.int n h1 h2,by simp[qJ,qH,qV]⟩
 | bool _ i n r u ns h=>exact⟨.bool n h,by simp[qJ,qH,qV]⟩
 | var _ i n r u ns _ h =>
  have:=hV.find h;exact⟨this.1,by simp only[qJ]; simp; omega⟩
 | call _ i n r u ks ns hn d hd hk hl hw =>
  have e:qJ p fl ev (.mk i 3 n r u ks ns) V s=zA6 ev d (qK ev V ks s).1 (qK ev V ks s).2:=by simp[qJ,dfn,hd]
  rw[e]at hs ⊢;unfold zA6 at hs ⊢;by_cases hf:(qK ev V ks s).2.fail=0
  ·rw[if_neg (by simp[hf])]at hs ⊢;have ha:=zDf h k hV ks _ s hl hw hf;exact up (k _ _ _ _ _ (hp r d hd (by simp[zBL,hk])) (EnvT.args ha.1 ha.2) hs)
  ·rw[if_pos hf]at hs;exact(hf hs).elim
 | op _ i n r u ks ns hn ts _ ho hl hw =>
  have e:qJ p fl ev (.mk i 4 n r u ks ns) V s=(zf true (qK ev V ks s).2 (opV n (qK ev V ks s).1),(qK ev V ks s).2):=by simp[qJ]
  rw[e]at hs ⊢;have ha:=zDf h k hV ks _ s hl hw hs;rw[zEx hs];have:=qI8 ho ha.1 ha.2;exact⟨this.1,by simp only; omega⟩
 | record _ i n r u ks ns hn d hd hk hl hw =>
  have e:qJ p fl ev (.mk i 7 n r u ks ns) V s=(zf (fl==1) (qK ev V ks s).2 (.mk 2 0 (qK ev V ks s).1),(qK ev V ks s).2):=by simp[qJ]
  rw[e]at hs ⊢;obtain⟨ha,hz⟩:=zDf h k hV ks _ s hl hw hs;rw[zEx hs];have hlen:=ha.len;rw[List.length_map]at hlen;refine⟨.record _ d _ hd hk hlen fun j hj=>?_,by have:=zOS hz (by rw[zBN]; exact hn); simp only[qH]; omega⟩;have:=ha.get j hj (by rw[List.length_map]; omega)
  rwa [List.getElem_map]at this
 | case _ i r u a ns d j hd hk hj ha =>
  have e:qJ p fl ev (.mk i 9 j r u [a] ns) V s=(zf (fl==1) (ev a V s).2 (.mk 3 j [(ev a V s).1]),(ev a V s).2):=by simp[qJ,qK]
  rw[e]at hs ⊢;rw[zEx hs];have:=k a B V s _ ha hV hs;exact⟨.case _ d j _ hd hk hj this.1,by simp only[qH,qV]; omega⟩
 | list _ i n r u ks ns t hn hw =>
  have e:qJ p fl ev (.mk i 11 n r u ks ns) V s=(zf (fl==1) (qK ev V ks s).2 (.mk 4 0 (qK ev V ks s).1),(qK ev V ks s).2):=by simp[qJ]
  rw[e]at hs ⊢;obtain⟨ha,hz⟩:=zDf h k hV ks (List.replicate ks.length t) s (by simp) (fun j hj=>by rw[List.getElem_replicate]; exact hw j hj) hs;rw[zEx hs];refine⟨.list _ _ fun v hv=>?_,by have:=zOS hz (by rw[zBN]; exact hn); simp only[qH]; omega⟩;obtain⟨j,hj,rfl⟩:=List.getElem_of_mem hv;have:=ha.get j hj (by rw[←ha.len]; exact hj)
  rwa [List.getElem_replicate]at this
 | ite _ i n r u a b c ns _ ha hb hc =>
  have e:qJ p fl ev (.mk i 5 n r u [a,b,c] ns) V s=if (ev a V s).2.fail≠0 then (vz,(ev a V s).2) else ev ([a,b,c].getD (if (ev a V s).1.n=1 then 1 else 2) .zero) V (ev a V s).2:=by simp[qJ,jA]
  rw[e]at hs ⊢;by_cases hf:(ev a V s).2.fail=0
  ·rw[if_neg (by simp[hf])]at hs ⊢;by_cases hn:(ev a V s).1.n=1
   ·simp only[if_pos hn]at hs ⊢;exact up (k b B V _ _ hb hV hs)
   ·simp only[if_neg hn]at hs ⊢;exact up (k c B V _ _ hc hV hs)
  ·rw[if_pos hf]at hs;exact(hf hs).elim
 | lets _ i n r u a b ns v _ hfr ha hb =>
  have e:qJ p fl ev (.mk i 6 n r u [a,b] ns) V s=if (ev a V s).2.fail≠0 then (vz,(ev a V s).2) else ev b (V++[⟨i,0,(ev a V s).1⟩]) (ev a V s).2:=by simp[qJ,jA]
  rw[e]at hs ⊢;by_cases hf:(ev a V s).2.fail=0
  ·rw[if_neg (by simp[hf])]at hs ⊢;exact up (k b _ _ _ _ hb (hV.push (k a B V s _ ha hV hf)) hs)
  ·rw[if_pos hf]at hs;exact(hf hs).elim
 | field _ i r u a ns d j hd hk hj ha =>
  have e:qJ p fl ev (.mk i 8 j r u [a] ns) V s=if (ev a V s).2.fail≠0 then (vz,(ev a V s).2) else ((ev a V s).1.kids.getD j vz,(ev a V s).2):=by simp[qJ,jA]
  rw[e]at hs ⊢;by_cases hf:(ev a V s).2.fail=0
  ·rw[if_neg (by simp[hf])]at hs ⊢;obtain⟨hty,hz⟩:=k a B V s _ ha hV hf;rcases hty.def_inv hd with ⟨_,vs,hl,h1,h2⟩ | ⟨h1,_⟩
   ·rw[h1]at hz ⊢;have hjl:j<vs.length:=by omega
    simp only[Val.kids,List.getD_eq_getElem?_getD,List.getElem?_eq_getElem hjl,Option.getD_some];exact up ⟨h2 j hjl,zCs hz (List.getElem_mem hjl)⟩
   ·omega
  ·rw[if_pos hf]at hs;exact(hf hs).elim
 | mtch _ i n r u a ks ns d _ hfr hd hk hl ha hw =>
  have e:qJ p fl ev (.mk i 10 n r u (a::ks) ns) V s=if (ev a V s).2.fail≠0 then (vz,(ev a V s).2) else ev ((a::ks).getD (1+(ev a V s).1.n).toNat .zero) (V++[⟨i,(ev a V s).1.n,(ev a V s).1.kids.headD vz⟩]) (ev a V s).2:=by simp[qJ,jA]
  rw[e]at hs ⊢;by_cases hf:(ev a V s).2.fail=0
  ·rw[if_neg (by simp[hf])]at hs ⊢;obtain⟨hty,hz⟩:=k a B V s _ ha hV hf;rcases hty.def_inv hd with ⟨h1,_⟩ | ⟨_,m,x,hm,h1,h2⟩
   ·omega
   ·have hmk:m<ks.length:=by omega
    have e2:(1+(m:Int)).toNat=m+1:=by omega
    rw[h1]at hs hz ⊢;simp only[Val.n,Val.kids,List.headD_cons,e2,List.getD_cons_succ,List.getD_eq_getElem?_getD,List.getElem?_cons_succ,List.getElem?_eq_getElem hmk,Option.getD_some]at hs ⊢;exact up (k _ _ _ _ _ (hw m hmk) (hV.push ⟨h2,zCs hz (by simp[Val.kids])⟩) hs)
  ·rw[if_pos hf]at hs;exact(hf hs).elim
 | fold _ i n r u l s' b ns v _ hfr hl' hs' hb =>
  have e:qJ p fl ev (.mk i 12 n r u [l,s',b] ns) V s=if (ev l V s).2.fail≠0 then (vz,(ev l V s).2) else jR ev V i b (ev l V s).1.kids (ev s' V (ev l V s).2):=by simp[qJ,jA]
  rw[e]at hs ⊢;by_cases hf:(ev l V s).2.fail=0
  ·rw[if_neg (by simp[hf])]at hs ⊢;obtain⟨hty,hz⟩:=k l B V s _ hl' hV hf;obtain⟨vs,h1,h2⟩:=hty.list_inv;rw[h1]at hs hz ⊢;exact up (zHz h k hV hb vs _ (fun x hx=>⟨h2 x hx,zCs hz hx⟩) (fun hg=>k s' B V _ _ hs' hV hg) hs)
  ·rw[if_pos hf]at hs;exact(hf hs).elim
theorem zAN (p:Prg)(fl:Nat):∀m,zFf (zAs p fl m)
 | 0=>fun e V s h=>by rw[zAs,if_pos h]
 | m+1=>fun e V s h=>by rw[zAs,if_pos h]
theorem zFA (hp:zPf p)(fl:Nat):∀m,Snd p (zAs p fl m)
 | 0=>fun e B V s t he hV hs=>by
  rw[zAs]at hs;split at hs
  ·rename_i h; exact(h hs).elim
  ·simp[zFv]at hs
 | m+1=>fun e B V s t he hV hs=>by
  rw[zAs]at hs ⊢;split at hs
  ·rename_i h; exact(h hs).elim
  ·split at hs
   ·simp[zFv]at hs
   ·rename_i h1 h2;rw[if_neg h1,if_neg h2];simp only[zLs]at hs ⊢;have hk:zB8 (qJ p fl (zAs p fl m) e V (zD4 e s))=(qJ p fl (zAs p fl m) e V (zD4 e s)).2∧(qJ p fl (zAs p fl m) e V (zD4 e s)).2.fail=0∧¬zPm (qJ p fl (zAs p fl m) e V (zD4 e s)).1:=by
     unfold zB8 at hs ⊢;split at hs
     ·simp[zFw]at hs
     ·rename_i h3;rw[if_neg h3];exact⟨rfl,hs,fun hb=>h3 ⟨hs,hb⟩⟩
    rw[zEx hs];have:=zWm hp fl (zAN p fl m) (zFA hp fl m) he hV hk.2.1;exact⟨this.1,zVZ this.2 hk.2.2⟩
end
end Go.Proofs.YthglhccibdlccaaGreatDoor

/-
  The maker's programs: what they are.
  What is proved: the maker of programs returns a typed program, whose nodes have IDs of their own.
-/
import Derived.Test.YthglhccibdlccaaGreatDoorX40
set_option linter.unusedVariables false
set_option linter.unusedSimpArgs false
namespace Go.Proofs.YthglhccibdlccaaGreatDoor
open Go.Abs
theorem zO3 {e:Exp}{c:Int}(hc:c∈tmps e):∀{ks:List Exp},e∈ks→c∈jA ks
 | x::ks,h=>by
  simp only[jA,List.mem_append];rcases List.mem_cons.1 h with rfl | h
  ·exact .inl hc
  ·exact .inr (zO3 hc h)
theorem zQB:∀(ks:List Exp),ks.length≤(jA ks).length
 | []=>Nat.le_refl _
 | e::ks=>by
  have:=zQB ks;have h1:1≤(tmps e).length:=by rw[zAW,List.length_append,List.length_singleton]; omega
  simp only[jA,List.length_append,List.length_cons];omega
section
variable {N:Nat}{i:Id}{k n:Int}{r:Id}{t:Typ}{ks:List Exp}{ns:List ByteArray}
theorem yB (hb:∀c∈tmps (.mk i k n r t ks ns),0≤c∧c<N)(hl:(tmps (.mk i k n r t ks ns)).length≤1000000000)(hk:k≠2)(hs:∀e∈ks,e.under N):(Exp.mk i k n r t ks ns).under N:=by simp only[Exp.under,zGx];have:=zQB ks;simp only[tmps,List.length_append,List.length_singleton]at hl;exact⟨hb i.c (by simp[tmps]),fun h=>(hk h).elim,by omega,hs⟩
theorem zAJ (hb:∀c∈tmps (.mk i k n r t ks ns),0≤c∧c<N){e:Exp}(he:e∈ks):∀c∈tmps e,0≤c∧c<N:=fun c hc=>hb c (by simp only[tmps,List.mem_append]; exact .inl (zO3 hc he))
theorem zAK (hl:(tmps (.mk i k n r t ks ns)).length≤1000000000){e:Exp}(he:e∈ks):(tmps e).length≤1000000000:=by have:=zHq he;simp only[tmps,List.length_append,List.length_singleton]at hl;omega
end
theorem zUT {env:List Bnd}{x:Id}{n:Int}{t:Typ}(h:zBS env x n=some t):∃b∈env,b.id=x∧b.n=n∧b.typ=t:=by simp only[zBS,Option.map_eq_some_iff]at h;obtain⟨b,hb,rfl⟩:=h;have h1:=List.mem_of_find?_eq_some hb;have h2:=List.find?_some hb;simp only[Bool.and_eq_true,decide_eq_true_eq]at h2;exact⟨b,by simpa using h1,h2.1,h2.2,rfl⟩
theorem zVA {hs:List Hd}{own:Int}{N:Nat}{env:List Bnd}{e:Exp}{t:Typ}(h:WT hs own env e t):(∀b∈env,b.id.b=0→0≤b.id.c∧b.id.c<N)→(∀c∈tmps e,0≤c∧c<N)→(tmps e).length≤1000000000→e.under N:=by
 induction h with
 | int env i n h1 h2=>exact fun _ hb hl=>yB hb hl (by omega) (by simp)
 | bool env i n h=>exact fun _ hb hl=>yB hb hl (by omega) (by simp)
 | var env i n x t h =>
  intro he hb hl;simp only[Exp.under,zIj,and_true];obtain⟨b,h1,h2,_,_⟩:=zUT h;exact⟨hb i.c (by simp[tmps]),fun _ h0=>by rw[←h2]at h0 ⊢; exact he b h1 h0,by simp⟩
 | call env i k h ks ho hk hlen hw ih =>
  refine fun he hb hl=>yB hb hl (by omega) fun e hm=>?_
  obtain⟨j,hj,rfl⟩:=List.getElem_of_mem hm;exact ih j hj he (zAJ hb hm) (zAK hl hm)
 | arith env i n a b h1 h2 ha hb' iha ihb =>
  refine fun he hb hl=>yB hb hl (by omega) fun e hm=>?_
  have k1:=zAJ hb hm;have k2:=zAK hl hm;simp only[List.mem_cons,List.not_mem_nil,or_false]at hm;rcases hm with rfl | rfl
  ·exact iha he k1 k2
  ·exact ihb he k1 k2
 | less env i a b ha hb' iha ihb =>
  refine fun he hb hl=>yB hb hl (by omega) fun e hm=>?_
  have k1:=zAJ hb hm;have k2:=zAK hl hm;simp only[List.mem_cons,List.not_mem_nil,or_false]at hm;rcases hm with rfl | rfl
  ·exact iha he k1 k2
  ·exact ihb he k1 k2
 | same env i a b u ha hb' iha ihb =>
  refine fun he hb hl=>yB hb hl (by omega) fun e hm=>?_
  have k1:=zAJ hb hm;have k2:=zAK hl hm;simp only[List.mem_cons,List.not_mem_nil,or_false]at hm;rcases hm with rfl | rfl
  ·exact iha he k1 k2
  ·exact ihb he k1 k2
 | andor env i n a b h ha hb' iha ihb =>
  refine fun he hb hl=>yB hb hl (by omega) fun e hm=>?_
  have k1:=zAJ hb hm;have k2:=zAK hl hm;simp only[List.mem_cons,List.not_mem_nil,or_false]at hm;rcases hm with rfl | rfl
  ·exact iha he k1 k2
  ·exact ihb he k1 k2
 | not env i a ha iha =>
  refine fun he hb hl=>yB hb hl (by omega) fun e hm=>?_
  have k1:=zAJ hb hm;have k2:=zAK hl hm;simp only[List.mem_cons,List.not_mem_nil,or_false]at hm;subst hm;exact iha he k1 k2
 | join env i a b t ha hb' iha ihb =>
  refine fun he hb hl=>yB hb hl (by omega) fun e hm=>?_
  have k1:=zAJ hb hm;have k2:=zAK hl hm;simp only[List.mem_cons,List.not_mem_nil,or_false]at hm;rcases hm with rfl | rfl
  ·exact iha he k1 k2
  ·exact ihb he k1 k2
 | len env i a t ha iha =>
  refine fun he hb hl=>yB hb hl (by omega) fun e hm=>?_
  have k1:=zAJ hb hm;have k2:=zAK hl hm;simp only[List.mem_cons,List.not_mem_nil,or_false]at hm;subst hm;exact iha he k1 k2
 | ite env i a b c t ha hb' hc iha ihb ihc =>
  refine fun he hb hl=>yB hb hl (by omega) fun e hm=>?_
  have k1:=zAJ hb hm;have k2:=zAK hl hm;simp only[List.mem_cons,List.not_mem_nil,or_false]at hm;rcases hm with rfl | rfl | rfl
  ·exact iha he k1 k2
  ·exact ihb he k1 k2
  ·exact ihc he k1 k2
 | lets env i a b u t ns hn ha hb' iha ihb =>
  refine fun he hb hl=>yB hb hl (by omega) fun e hm=>?_
  have k1:=zAJ hb hm;have k2:=zAK hl hm;have ki:=hb i.c (by simp[tmps]);simp only[List.mem_cons,List.not_mem_nil,or_false]at hm;rcases hm with rfl | rfl
  ·exact iha he k1 k2
  ·refine ihb (fun b hb0 h0=>?_) k1 k2;rcases List.mem_append.1 hb0 with hb0 | hb0
   ·exact he b hb0 h0
   ·rw[List.mem_singleton.1 hb0]; exact ki
 | record env i k h ks hk hlen hw ih =>
  refine fun he hb hl=>yB hb hl (by omega) fun e hm=>?_
  obtain⟨j,hj,rfl⟩:=List.getElem_of_mem hm;exact ih j hj he (zAJ hb hm) (zAK hl hm)
 | field env i k h j hj a hk ha iha =>
  refine fun he hb hl=>yB hb hl (by omega) fun e hm=>?_
  have k1:=zAJ hb hm;have k2:=zAK hl hm;simp only[List.mem_cons,List.not_mem_nil,or_false]at hm;subst hm;exact iha he k1 k2
 | case env i k h j hj a hk ha iha =>
  refine fun he hb hl=>yB hb hl (by omega) fun e hm=>?_
  have k1:=zAJ hb hm;have k2:=zAK hl hm;simp only[List.mem_cons,List.not_mem_nil,or_false]at hm;subst hm;exact iha he k1 k2
 | mtch env i k h a ks t ns hn hk hlen ha hw iha ih =>
  refine fun he hb hl=>yB hb hl (by omega) fun e hm=>?_
  have k1:=zAJ hb hm;have k2:=zAK hl hm;have ki:=hb i.c (by simp[tmps]);rcases List.mem_cons.1 hm with rfl | hm
  ·exact iha he k1 k2
  ·obtain⟨j,hj,rfl⟩:=List.getElem_of_mem hm;refine ih j hj (fun b hb0 h0=>?_) k1 k2;rcases List.mem_append.1 hb0 with hb0 | hb0
   ·exact he b hb0 h0
   ·rw[List.mem_singleton.1 hb0]; exact ki
 | list env i t ks hw ih =>
  refine fun he hb hl=>yB hb hl (by omega) fun e hm=>?_
  obtain⟨j,hj,rfl⟩:=List.getElem_of_mem hm;exact ih j hj he (zAJ hb hm) (zAK hl hm)
 | fold env i l s b u t ns hn hl' hs' hb' ihl ihs ihb =>
  refine fun he hb hl=>yB hb hl (by omega) fun e hm=>?_
  have k1:=zAJ hb hm;have k2:=zAK hl hm;have ki:=hb i.c (by simp[tmps]);simp only[List.mem_cons,List.not_mem_nil,or_false]at hm;rcases hm with rfl | rfl | rfl
  ·exact ihl he k1 k2
  ·exact ihs he k1 k2
  ·refine ihb (fun b hb0 h0=>?_) k1 k2;rcases List.mem_append.1 hb0 with hb0 | hb0
   ·rcases List.mem_append.1 hb0 with hb0 | hb0
    ·exact he b hb0 h0
    ·rw[List.mem_singleton.1 hb0]; exact ki
   ·rw[List.mem_singleton.1 hb0]; exact ki
structure Renamed (hs:List Hd)(k:Nat)(d:Dfn)(base:Int)(e:Exp)(f:Int→Id):Prop where
 body:d.body=zBz f e
 wt:WT hs k (zAX d) e d.res
 nd:(tmps e).Nodup
 num:e.num0
 len:(tmps e).length≤32768
 ids:∀(j:Nat) (h:j<(tmps e).length),f (tmps e)[j]=idR (base+j)
def nmV (l:List Int):Nat:=(1+atV l 0 2).toNat
theorem zMn (l:List Int)(hl:∀x∈l,w64 x=x):(nmV l:Int)=1+atV l 0 2∧(nmV l=1∨nmV l=2):=by obtain⟨a,b⟩:=jY (i:=0) hl (most:=2) (by omega);unfold nmV;omega
structure PrgOk (l:List Int)(P:Prg):Prop where
 mods:P.mods=zHc (nmV l) (zW l (nmV l))
 heads:P.defs.map Dfn.hd=hsV l (nmV l)
 bodies:∃base:Nat→Int,base 0=zAo (nmV l) (zW l (nmV l)) (zW l (nmV l)).length∧∀(k:Nat) (d:Dfn),P.defs[k]?=some d →
  (zCi d=false∧d.body=Exp.zero∧base (k+1)=base k)∨(zCi d=true∧∃e f,Renamed (hsV l (nmV l)) k d (base k) e f∧base (k+1)=base k+(tmps e).length)
theorem zYU {hs:List Hd}{n:Nat}{ms:Nat→Mk}(hf:∀i<n,zQd hs i (ms i) (ms (i+1))):∀i≤n,(ms 0).temp≤(ms i).temp∧(∀j,i≤j→(ms i).defs[j]?=(ms 0).defs[j]?) ∧
 ∀j<i,∀d,(ms 0).defs[j]?=some d→(zCi d=false∧(ms i).defs[j]?=some d)∨(zCi d=true∧∃e lo,(ms i).defs[j]?=some (d.wb e)∧BGood hs j d lo (ms i).temp e∧(ms 0).temp≤lo)
 | 0,_=>⟨Int.le_refl _,fun _ _=>rfl,fun j hj=>by omega⟩
 | i+1,hi=>by
  obtain⟨t,c1,c2⟩:=zYU hf i (by omega);obtain⟨d,hd,ht,hc⟩:=hf i (by omega);have hlt:=(List.getElem?_eq_some_iff.1 hd).1;have hd0:=c1 i (Nat.le_refl _);rw[hd]at hd0;rcases hc with ⟨hk,he⟩ | ⟨⟨hk0,hk1⟩,e,he,hg⟩
  ·have hbd:zCi d=false:=by rcases hk with h | h<;>simp[zCi,h]
   refine⟨by omega,fun j hj=>by rw[he]; exact c1 j (by omega),fun j hj d' hd'=>?_⟩;rw[he];by_cases e:j=i
   ·subst e;rw[←hd0]at hd';cases hd';exact .inl ⟨hbd,hd⟩
   ·rcases c2 j (by omega) d' hd' with h | ⟨h,e,lo,h1,h2,h3⟩
    ·exact .inl h
    ·exact .inr ⟨h,e,lo,h1,⟨h2.wt,h2.seg.mono (Int.le_refl _) ht,h2.num,h2.len⟩,h3⟩
  ·have hbd:zCi d=true:=by simp[zCi,hk0,hk1]
   refine⟨by omega,fun j hj=>by rw[he,List.getElem?_set_ne (by omega)]; exact c1 j (by omega),fun j hj d' hd'=>?_⟩;rw[he];by_cases e:j=i
   ·subst e;rw[←hd0]at hd';cases hd';exact .inr ⟨hbd,_,_,List.getElem?_set_self hlt,hg,t⟩
   ·rw[List.getElem?_set_ne (Ne.symm e)];rcases c2 j (by omega) d' hd' with h | ⟨h,e,lo,h1,h2,h3⟩
    ·exact .inl h
    ·exact .inr ⟨h,e,lo,h1,⟨h2.wt,h2.seg.mono (Int.le_refl _) ht,h2.num,h2.len⟩,h3⟩
set_option maxHeartbeats 2000000 in
theorem zX5 (l:List Int)(hl:∀x∈l,w64 x=x):∃P:Prg,PrgOk l P∧Ret Tryz.prog 9 [.sl l.length (yA l)] [] (.agg (zU P)) []:=by
 obtain⟨hnm,hnm2⟩:=zMn l hl;generalize hN:nmV l=nm at *
 have m1:1≤(nm:Int):=by omega
 have m2:(nm:Int)≤2:=by omega
 generalize hps:zW l nm=ps;have h8:=(zAp l nm).2;have h6:=zAQ l nm m1 m2 hl;rw[hps]at h8 h6;have hnr:=zBT (mods:=nm) (ps:=ps) (by omega) (fun p hp=>(h6 p hp).t6) ps.length;generalize hM:zHc nm ps=M;obtain⟨m0,hm0⟩:∃m0:Mk,m0={mods:=M,defs:=zDy nm ps,l:=l,at_:=24,temp:=0,left:=0,own:=0,home:=Id.zero,name:=0}:=⟨_,rfl⟩;have hi0:BInv l nm 0 m0:=by rw[hm0];exact⟨by rw[hsV,hps]; rfl,by rw[hps,hM],rfl,by simp,by simp,by simp,by simp⟩
 obtain⟨ms,b0,b1,b2⟩:=zRs m1 m2 hl m0 hi0;rw[hps]at b1 b2;have hds0:(ms 0).defs=zDy nm ps:=by rw[b0,hm0]
 have ht0:(ms 0).temp=0:=by rw[b0,hm0]
 have hlen:∀i≤ps.length,(ms i).defs.length=ps.length:=fun i hi=>by
  have:=congrArg List.length (b1 i hi).heads
  simpa [hps] using this
 have hslots:∀i≤ps.length,∀d∈(ms i).defs,d.slots.length≤6:=fun i hi d hd=>by obtain⟨j,hj,rfl⟩:=List.getElem_of_mem hd;have:=zGf m1 m2 hl (i:=j) (d:=(ms i).defs[j]) (by rw[←(b1 i hi).heads,List.getElem?_map,List.getElem?_eq_getElem hj]; rfl) 0;have h6:=this.2.2.1;rw[zEU]at h6;exact h6
 obtain⟨c0,_,c2⟩:=zYU (fun i hi=>(b2 i hi).2) ps.length (Nat.le_refl _);rw[ht0]at c0 c2;have htn:=(b1 ps.length (Nat.le_refl _)).temp1;obtain⟨N,hNn⟩:∃N:Nat,(ms ps.length).temp=N:=⟨(ms ps.length).temp.toNat,by omega⟩;have hhd:=(b1 ps.length (Nat.le_refl _)).heads;have hbody:∀(k:Nat) (d:Dfn),(ms ps.length).defs[k]?=some d→(zCi d=false∧d.body=Exp.zero)∨(zCi d=true∧WT (hsV l nm) k (zAX d) d.body d.res∧(tmps d.body).Nodup∧d.body.num0∧(tmps d.body).length≤32768∧∀c∈tmps d.body,0≤c∧c<N):=fun k d hd=>by
  have hk:=(List.getElem?_eq_some_iff.1 hd).1;rw[hlen _ (Nat.le_refl _)]at hk;have hd0:(ms 0).defs[k]?=some (zNd nm (zAo nm ps k) k ps[k]):=by rw[hds0,List.getElem?_eq_getElem (by simpa using hk),zHC nm ps hk]
  rcases c2 k hk _ hd0 with ⟨h1,h2⟩ | ⟨h1,e,lo,h2,h3,h4⟩
  ·rw[h2]at hd;cases hd;exact .inl ⟨h1,rfl⟩
  ·rw[h2]at hd;cases hd;refine .inr ⟨h1,h3.wt,h3.seg.nd,h3.num,h3.len,fun c hc=>?_⟩;have:=h3.seg.rng c hc;omega
 have hunder:∀d∈(ms ps.length).defs,zCi d=true→d.body.under N∧(∀c∈tmps d.body,0≤c∧c<N)∧(tmps d.body).length≤1000000:=fun d hd hbd=>by
  obtain⟨k,hk,rfl⟩:=List.getElem_of_mem hd;have hg:(ms ps.length).defs[k]?=some (ms ps.length).defs[k]:=List.getElem?_eq_getElem hk;rcases hbody k _ hg with ⟨h,_⟩ | ⟨_,h1,h2,h3,h4,h5⟩
  ·rw[hbd]at h; cases h
  ·refine⟨zVA h1 (fun b hb h0=>?_) h5 (by omega),h5,by omega⟩;have:=(zGf m1 m2 hl (i:=k) (d:=(ms ps.length).defs[k]) (by rw[←hhd,List.getElem?_map,hg]; rfl) 0).1.new b hb h0;exfalso;have hn:=(zGf m1 m2 hl (i:=k) (d:=(ms ps.length).defs[k]) (by rw[←hhd,List.getElem?_map,hg]; rfl) (b.id.c-0)).1.new b hb h0;omega
 obtain⟨s,hs⟩:∃s:NSt,s=⟨(ms ps.length).defs,zC1 N,zAo nm ps ps.length⟩:=⟨_,rfl⟩;have hsd:s.ds=(ms ps.length).defs:=by rw[hs]
 have hsi:s.ids.length=N:=by rw[hs]; simp[zC1]
 have hsn:s.next=zAo nm ps ps.length:=by rw[hs]
 refine⟨⟨M,(zBg s ps.length).ds⟩,⟨by rw[hN,hps,hM],?_,fun k=>(zBg s k).next,?_,fun k d hd=>?_⟩,?_⟩
 ·rw[hN,zJJ,hsd,hhd]
 ·rw[hN,hps]; exact hsn
 ·rw[hN];have hk:=(List.getElem?_eq_some_iff.1 hd).1;have hl1:=(zFe s ps.length).1;rw[hsd,hlen _ (Nat.le_refl _)]at hl1;simp only at hk hd;rw[hl1]at hk;rw[zL0 s ps.length hk]at hd;have hg:s.ds[k]?=some ((ms ps.length).defs[k]'(by rw[hlen _ (Nat.le_refl _)]; exact hk)):=by rw[hsd]; exact List.getElem?_eq_getElem _
  have hst:=zHQ s hg;have hcur:(zBg s k).ds[k]?=s.ds[k]?:=zEy s k k (Nat.le_refl _);rw[hg]at hcur;have hil:=(zFe s k).2;rw[hsi]at hil;have hb:=hbody k _ (List.getElem?_eq_getElem (by rw[hlen _ (Nat.le_refl _)]; exact hk));generalize (ms ps.length).defs[k]'(by rw[hlen _ (Nat.le_refl _)]; exact hk)=d' at *
  dsimp only
  rw[hst]at hd ⊢;rcases hb with ⟨h1,h2⟩ | ⟨h1,h2,h3,h4,h5,h6⟩
  ·rw[if_neg (by simp[h1])]at hd ⊢;rw[hcur]at hd;cases hd;exact .inl ⟨h1,h2,rfl⟩
  ·rw[if_pos h1]at hd ⊢;simp only at hd ⊢;rw[List.getElem?_set_self (List.getElem?_eq_some_iff.1 hcur).1]at hd;cases hd;refine .inr ⟨h1,d'.body,_,⟨rfl,h2,h3,h4,h5,fun j hj=>?_⟩,rfl⟩;exact zOz _ _ _ h3 (fun x hx=>by rw[hil]; exact h6 x hx) j hj
 ·have hp6:∀p∈ps,p.types.length≤6:=fun p hp=>(h6 p hp).t6
  have hD:=qIa (ms ps.length) M (zAo nm ps ps.length) N hNn (by omega) (by omega) (by omega) (by rw[hlen _ (Nat.le_refl _)]; omega) hunder;rw[←hs,hlen _ (Nat.le_refl _)]at hD;have hC:=qHZ l M ps.length (by omega) (zAo nm ps ps.length) m0 (by rw[hm0]) ms b0 hlen hslots (fun i hi=>(b2 i hi).1) ⟨M,(zBg s ps.length).ds⟩ (by rw[hlen _ (Nat.le_refl _)]; exact hD);have hm0d:m0.defs=zDy nm ps:=by rw[hm0]
  rw[hm0d]at hC;have hB:=qHY l hl nm hnm2 ps hps.symm ⟨M,(zBg s ps.length).ds⟩ (by rw[hM]; exact hC);have ha:=zBw l 0 2 (by omega);have wn:IntKind.i64.wrap (1+atV l 0 2)=nm:=by rw[←hnm]; exact IntWalk.i64_in _ (by omega)
  refine zH Tryz.func9 rfl qLq (rs:=[.cell 2 2 true]) (by kernel_rfl) ?_;unfold qEK;simp;refine zQ ha (by simp) (by simp) ?_;simp[wn];refine qY (S:=Nat) (fun i=>[(0,.sl l.length (yA l)),(2,.ptr 0 0),(3,int nm),(4,.ptr 1 0),(5,int i)])
   (fun i=>[.box [.nil,.nil],.box [.row 2 i,.row 3 0],.row false 84 6 i (MC i),.row false 39 31 0 []]) (fun i=>i≤nm) (fun i=>nm-i) 0 (by simp)
   (((zAa (l:=1) (o:=0) rfl rfl 84 6).trans (zAa (l:=1) (o:=1) rfl rfl 39 31)).trans (zR [0,1,2,3] 0 (by decide) (by simp) (by simp[MC]) (by simp))) ?_
  intro i hi;by_cases h:i<nm
  ·have hi2:i=0∨i=1:=by omega
   have k0:=zED 0;have k1:=zED i;rcases hi2 with rfl | rfl
   ·have k1':Ret Tryz.prog 32 [int 0] [] (.agg (qF (idR 0))) []:=k0;simp[h,MC];refine zAr k1' (by simp) (by simp) ?_;simp[h,qF];refine⟨by simp[maxLen],?_⟩;exact zT 1 h (by omega) (zR [0,1,2,3] 0 (by decide) (by simp) (by simp[MC,m0C]) (by simp[show IntKind.i64.wrap 1=1 by decide]))
   ·have hn2:nm=2:=by omega
    subst hn2;have k1':Ret Tryz.prog 32 [int 1] [] (.agg (qF (idR 1))) []:=zED 1;simp[MC];refine zAr k1' (by simp) (by simp) ?_;simp[qF];refine zQ k0 (by simp) (by simp) ?_;simp[qF];refine⟨by simp[maxLen],?_⟩;exact zT 2 (by omega) (by omega) (zR [0,1,2,3] 0 (by decide) (by simp) (by simp[MC,m0C,m1C,qF]) (by simp[show IntKind.i64.wrap 2=2 by decide]))
  ·have hie:i=nm:=by omega
   subst hie;simp;exact⟨_,_,zR [0,1,2,3] 0 (by decide) (by simp) (by rcases hnm2 with rfl | rfl<;>simp[MC,m0C,m1C,qF]) (by simp),hB⟩
end Go.Proofs.YthglhccibdlccaaGreatDoor

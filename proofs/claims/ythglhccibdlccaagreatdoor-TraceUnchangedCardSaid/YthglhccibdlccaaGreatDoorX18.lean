/-
  The maker's bodies exist.
  The numbers of nodes become IDs: the data.
  The maker's programs, walked: the nodes get their IDs.
  The maker's programs, walked: the bodies are made.
  The maker's programs, walked: modules, definitions, slots.
  The maker's programs: what they are.
  What is proved: the maker of programs returns a typed program, whose nodes have IDs of their own.
-/
import Derived.Test.YthglhccibdlccaaGreatDoorX17
import Derived.Test.YthglhccibdlccaaGreatDoorX11
set_option linter.unusedVariables false
set_option maxHeartbeats 8000000
set_option maxRecDepth 100000
set_option linter.unusedSimpArgs false
open Go.Proofs.Tryz (prog)
namespace Go.Proofs.YthglhccibdlccaaGreatDoor
open Go.Abs
theorem zX9 {α : Type}(I:Nat→α→Prop)(S:Nat→α→α→Prop)(a0 : α)(h0:I 0 a0):∀n:Nat,(∀i<n,∀a,I i a→∃b,I (i+1) b∧S i a b)→∃f:Nat→α,f 0=a0∧(∀i≤n,I i (f i))∧∀i<n,S i (f i) (f (i+1))
 | 0,_=>⟨fun _=>a0,rfl,(fun i hi=>by
  obtain rfl:i=0:=by omega
  exact h0),fun i hi=>by omega⟩
 | n+1,h=>by
  obtain⟨f,f0,f1,f2⟩:=zX9 I S a0 h0 n fun i hi=>h i (by omega)
  obtain⟨b,b1,b2⟩:=h n (by omega) (f n) (f1 n (jA _));refine⟨fun i=>if i≤n then f i else b,by simp[f0],fun i hi=>?_,fun i hi=>?_⟩
  ·by_cases e:i≤n
   ·simp only[e,if_true]; exact f1 i e
   ·obtain rfl:i=n+1:=by omega
    simp only[show ¬n+1≤n by omega,if_false]; exact b1
  ·by_cases e:i=n
   ·subst e;simp only[jA,if_true,show ¬i+1≤i by omega,if_false]; exact b2
   ·simp only[show i≤n by omega,show i+1≤n by omega,if_true]; exact f2 i (by omega)
def Dfn.wb (d:Dfn)(e:Exp):Dfn:={d with body:=e}
@[simp] theorem Dfn.hd_wb (d:Dfn)(e:Exp):(d.wb e).hd=d.hd:=rfl
def zBk (d:Dfn):List Bnd:=d.slots.map fun s=>⟨s.id,0,s.typ⟩
@[simp] theorem zFU (d:Dfn):(zBk d).length=d.slots.length:=by simp[zBk]
@[simp] theorem qM2 (d:Dfn)(e:Exp):zBk (d.wb e)=zBk d:=rfl
def mkA (m:Mk)(i:Nat)(d:Dfn):Mk:={m with own:=i,home:=d.mod,left:=14,name:=0}
def mkD (m:Mk)(i:Nat)(d:Dfn):Mk:={m with defs:=m.defs.set i d}
def mkL (m:Mk):Mk:={m with left:=0}
theorem zGC {ds:List Dfn}{i:Nat}{d:Dfn}(h:ds[i]?=some d)(e:Exp):(ds.set i (d.wb e)).map Dfn.hd=ds.map Dfn.hd:=by
 apply jC9;intro j;rw[jBd,jBd];by_cases hj:j=i
 ·subst hj;rw[jAq (jA4.1 h).1,h]; rfl
 ·rw[jAf (Ne.symm hj)]
def zRX (i:Nat)(m m':Mk):Prop:=∃d,m.defs[i]?=some d ∧
 ((d.kind=0∨d.kind=1)∧m'=m ∨
  (d.kind≠0∧d.kind≠1)∧∃(e1:Exp) (m1:Mk),Ret prog zAg [.ptr 0 0,.agg (zB d.res),.sl (zBk d).length (zQ (zBk d)),int 4] (mkS (mkA m i d)) (.agg (zF e1)) (mkS m1)∧m1.defs=m.defs∧m1.mods=m.mods∧(tmps e1).length≤1000000000 ∧
   ((tmps e1).length≤30∧m'=mkD m1 i (d.wb e1) ∨
    30<(tmps e1).length∧∃(e2:Exp) (m2:Mk),Ret prog zAg [.ptr 0 0,.agg (zB d.res),.sl (zBk d).length (zQ (zBk d)),int 0] (mkS (mkL (mkD m1 i (d.wb e1)))) (.agg (zF e2)) (mkS m2)∧m2.defs=m.defs.set i (d.wb e1)∧m2.mods=m.mods ∧
     m'=mkD m2 i (d.wb e2)))
structure BGood (hs:List Hd)(k:Nat)(d:Dfn)(lo hi:Int)(e:Exp):Prop where
 wt:WT hs k (zBk d) e d.res
 seg:Seg lo hi (tmps e)
 num:e.num0
 len:(tmps e).length≤32768
def zRW (hs:List Hd)(i:Nat)(m m':Mk):Prop:=∃d,m.defs[i]?=some d∧m.temp≤m'.temp ∧
 ((d.kind=0∨d.kind=1)∧m'.defs=m.defs∨(d.kind≠0∧d.kind≠1)∧∃e,m'.defs=m.defs.set i (d.wb e)∧BGood hs i d m.temp m'.temp e)
structure BInv (l:List Int)(mods:Int)(i:Nat)(m:Mk):Prop where
 heads:m.defs.map Dfn.hd=hsV l mods
 mods:m.mods=zIl mods (qC l mods)
 l:m.l=l
 at0:0≤m.at_
 at1:m.at_≤24+i*200000000
 temp0:0≤m.temp
 temp1:m.temp≤i*200000000
theorem zST {a b:Int}{l:List Int}(h:Seg a b l)(hab:a≤b):(l.length:Int)≤b-a:=by
 have hp:(l.map fun x=>(x-a).toNat).Nodup:=by rw[jDx,jD0];refine List.Pairwise.imp_of_mem (fun {x y} hx hy hne=>?_) (jDx.1 h.nd);have:=h.rng x hx;have:=h.rng y hy;intro e;exact hne (by omega)
 have hs:(l.map fun x=>(x-a).toNat)⊆List.range (b-a).toNat:=fun n hn=>by obtain⟨x,hx,rfl⟩:=jAi.1 hn;have:=h.rng x hx;rw[jC0];omega
 have:=hp.length_le_of_subset hs;rw[jAa,List.length_range]at this;omega
section
variable {l:List Int}{mods:Int}(hm:1≤mods)(hm2:mods≤2)(hl:∀x∈l,w64 x=x)
include hm hm2 hl
theorem zHv {i:Nat}{d:Dfn}(h:(hsV l mods)[i]?=some d.hd)(temp:Int):EnvOk (hsV l mods) 4 temp (zBk d)∧1≤(zBk d).length∧(zBk d).length≤6∧TyOk (hsV l mods) 4 d.res:=by
 obtain⟨hi,he⟩:=jA4.1 h;have hi':i<(qC l mods).length:=by simpa using hi
 rw[zE6 mods (qC l mods) hi']at he;have hp:=zBs l mods hm hm2 hl _ (jA0 hi');have ht:=zJj l mods hm hm2 hl _ (jA0 hi');obtain⟨n1,n2⟩:=zCw (show 0≤mods by omega) (fun p hp=>(zBs l mods hm hm2 hl p hp).t6) i;have n8:=(zAE l mods).2;have eS:d.slots=zBw (zA9 mods (qC l mods) i) (qC l mods)[i]:=by have:=congrArg Hd.slots he;exact this.symm
 have eR:d.res=(qC l mods)[i].out:=by have:=congrArg Hd.res he;exact this.symm
 generalize (qC l mods)[i]=p at *
 generalize zA9 mods (qC l mods) i=nx at *
 refine⟨⟨fun b hb=>?_,?_,fun b hb h0=>?_⟩,by simp only[zFU,eS,zCW]; exact hp.t1,by simp only[zFU,eS,zCW]; exact hp.t6,by rw[eR]; exact ht.2⟩
 ·simp only[zBk,jAi]at hb;obtain⟨s,hs,rfl⟩:=hb;rw[eS]at hs;exact ht.1 _ (zH6 hs)
 ·simp only[zBk,eS,zBw,jCv];rw[jD0];refine List.Pairwise.imp_of_mem (fun {a b} ha hb hlt=>?_) List.pairwise_lt_range;rw[jC0]at ha hb;have:=hp.t6;intro e;have:=zFf (by omega) (by omega) (by omega) (by omega) e.1;omega
 ·exfalso;simp only[zBk,jAi]at hb;obtain⟨s,hs,rfl⟩:=hb;rw[eS]at hs;simp only[zBw,jAi,jC0]at hs;obtain⟨k,hk,rfl⟩:=hs;have:=hp.t6;have:=qB6 (k:=nx+k) (by omega) (by omega);simp only[zNA]at h0;omega
theorem zYo (i:Nat)(hi:i<(qC l mods).length)(m:Mk)(h:BInv l mods i m):∃m',BInv l mods (i+1) m'∧zRX i m m'∧zRW (hsV l mods) i m m':=by
 have hlen:m.defs.length=(qC l mods).length:=by have:=congrArg List.length h.heads; simpa using this
 have n8:=(zAE l mods).2;obtain⟨d,hd⟩:∃d,m.defs[i]?=some d:=⟨m.defs[i]'(by omega),by simp⟩;have hhd:(hsV l mods)[i]?=some d.hd:=by rw[←h.heads,jBd,hd]; rfl
 by_cases hk:d.kind=0∨d.kind=1
 ·refine⟨m,⟨h.heads,h.mods,h.l,h.at0,by have:=h.at1; omega,h.temp0,by have:=h.temp1; omega⟩,⟨d,hd,.inl ⟨hk,rfl⟩⟩,⟨d,hd,jC7 _,.inl ⟨hk,rfl⟩⟩⟩
 have hk':d.kind≠0∧d.kind≠1:=⟨fun e=>hk (.inl e),fun e=>hk (.inr e)⟩;have hmne:0<m.mods.length:=by rw[h.mods]; simp[zIl]
 have h89:(8:Int) ^ (4+4+1)=134217728:=by decide
 have h85:(8:Int) ^ (0+4+1)=32768:=by decide
 obtain⟨k4,_⟩:=zKY (hsV l mods) 4 (by omega) (by omega) 4 (by omega);obtain⟨k0,_⟩:=zKY (hsV l mods) 4 (by omega) (by omega) 0 (by omega);rw[h89]at k4;rw[h85]at k0;obtain⟨at0,at1,tp0,tp1⟩:=(⟨h.at0,h.at1,h.temp0,h.temp1⟩:_∧_∧_∧_);have hi8:(i:Int)≤8:=by omega
 obtain⟨eo,e1,e6,et⟩:=zHv hm hm2 hl hhd (mkA m i d).temp;have cA:Cx (hsV l mods) 4 (mkA m i d):=cxV l mods hm hm2 hl _ h.heads hmne h.l (by simp only[mkA]; omega);have lA:Lim (mkA m i d) 134217728:=⟨at0,by simp only[mkA]; omega,tp0,by simp only[mkA]; omega,by simp only[mkA]; omega,by simp only[mkA]; omega,by simp only[mkA]; omega,by simp only[mkA]; omega⟩;obtain⟨x1,m1,g1,g2,g3,g4,g5⟩:=k4 (mkA m i d) 4 d.res (zBk d) cA lA et (jA _) eo e1 (by omega);have htA:(mkA m i d).temp=m.temp:=rfl;have sl1:=zST g4 g2.temp1;rw[htA]at sl1 g4;have a1:m.at_≤m1.at_:=g2.at1;have a2:m1.at_≤m.at_+134217728:=g2.at2;have b1:m.temp≤m1.temp:=g2.temp1;have b2:m1.temp≤m.temp+134217728:=g2.temp2;have dd:m1.defs=m.defs:=g2.defs;have dm:m1.mods=m.mods:=g2.mods;have dl:m1.l=m.l:=g2.l;by_cases h30:(tmps x1).length≤30
 ·refine⟨mkD m1 i (d.wb x1),⟨?_,dm.trans h.mods,dl.trans h.l,by simp only[mkD]; omega,by simp only[mkD]; omega,by simp only[mkD]; omega,by simp only[mkD]; omega⟩,⟨d,hd,.inr ⟨hk',x1,m1,g1,dd,dm,by omega,.inl ⟨h30,rfl⟩⟩⟩,⟨d,hd,b1,.inr ⟨hk',x1,?_,g3,g4,g5,by omega⟩⟩⟩
  ·simp only[mkD,dd]; rw[zGC hd]; exact h.heads
  ·simp only[mkD,dd]
 ·have cB:Cx (hsV l mods) 4 (mkL (mkD m1 i (d.wb x1))):=cxV l mods hm hm2 hl _ (by simp only[mkL,mkD,dd]; rw[zGC hd]; exact h.heads) (by simp only[mkL,mkD,dm]; exact hmne) (dl.trans h.l) (by
   have:m1.own=i:=g2.own;simp only[mkL,mkD]; omega)
  have nm:m1.name≤134217728:=by have:m1.name≤0+134217728:=g2.name2; omega
  have nm0:0≤m1.name:=g2.name1;have lB:Lim (mkL (mkD m1 i (d.wb x1))) 32768:=⟨by simp only[mkL,mkD]; omega,by simp only[mkL,mkD]; omega,by simp only[mkL,mkD]; omega,by simp only[mkL,mkD]; omega,by simp only[mkL,mkD]; omega,by simp only[mkL,mkD]; omega,nm0,by simp only[mkL,mkD]; omega⟩;obtain⟨x2,m2,f1,f2,f3,f4,f5⟩:=k0 (mkL (mkD m1 i (d.wb x1))) 4 d.res (zBk d) cB lB et (jA _) (zHv hm hm2 hl hhd _).1 e1 (by omega);have sl2:=zST f4 f2.temp1;have p1:m1.at_≤m2.at_:=f2.at1;have p2:m2.at_≤m1.at_+32768:=f2.at2;have q1:m1.temp≤m2.temp:=f2.temp1;have q2:m2.temp≤m1.temp+32768:=f2.temp2;have dd2:m2.defs=m.defs.set i (d.wb x1):=by have:=f2.defs; rw[this]; simp only[mkL,mkD,dd]
  have dm2:m2.mods=m.mods:=by have:=f2.mods; rw[this]; simp only[mkL,mkD,dm]
  have dl2:m2.l=m.l:=by have:=f2.l; rw[this]; simp only[mkL,mkD,dl]
  have hset:(m.defs.set i (d.wb x1)).set i (d.wb x2)=m.defs.set i (d.wb x2):=by rw[List.set_set]
  have o1:m1.own=i:=g2.own;have hwt:WT (hsV l mods) i (zBk d) x2 d.res:=by have:(mkL (mkD m1 i (d.wb x1))).own=i:=o1;rw[this]at f3; exact f3
  have ht1:(mkL (mkD m1 i (d.wb x1))).temp=m1.temp:=rfl;rw[ht1]at f4 sl2;refine⟨mkD m2 i (d.wb x2),⟨?_,dm2.trans h.mods,dl2.trans h.l,by simp only[mkD]; omega,by simp only[mkD]; omega,by simp only[mkD]; omega,by simp only[mkD]; omega⟩,⟨d,hd,.inr ⟨hk',x1,m1,g1,dd,dm,by omega,.inr ⟨by omega,x2,m2,f1,dd2,dm2,rfl⟩⟩⟩,
   ⟨d,hd,by simp only[mkD]; omega,.inr ⟨hk',x2,?_,hwt,f4.mono b1 (jC7 _),f5,by omega⟩⟩⟩
  ·simp only[mkD,dd2,hset]; rw[zGC hd]; exact h.heads
  ·simp only[mkD,dd2,hset]
theorem zTq (m0:Mk)(h0:BInv l mods 0 m0):∃ms:Nat→Mk,ms 0=m0∧(∀i≤(qC l mods).length,BInv l mods i (ms i))∧∀i<(qC l mods).length,zRX i (ms i) (ms (i+1))∧zRW (hsV l mods) i (ms i) (ms (i+1)) :=
 zX9 (BInv l mods) (fun i m m'=>zRX i m m'∧zRW (hsV l mods) i m m') m0 h0 _ fun i hi a ha=>by obtain⟨b,h1,h2⟩:=zYo hm hm2 hl i hi a ha;exact⟨b,h1,h2⟩
end
end Go.Proofs.YthglhccibdlccaaGreatDoor
namespace Go.Abs
theorem qDn {P:Program}{KD:Env→Prop}{env:Env} {σ : St}{d:Option Nat}{f:FuncId}{args args':List A} {σ0:St}{r:A}(h:Ret P f args σ0 r σ0)(js:List Nat)(hd:js.Nodup)(ho:zAB σ yA (qX js) js σ0)(ha:zBC js args' args)
 (hr:ren js σ.length r=r)(hp:jX σ js (σ0.map (zBM js σ.length)) = σ)(hq:KD (env.put d r)):zKz P σ d KD f args' env:=by
 refine⟨r,zAF h js hd ho ha ?_,hq⟩;rw[hr,hp];simp
end Go.Abs
namespace Go.Proofs.YthglhccibdlccaaGreatDoor
open Go.Abs
def zDo:List Id→Int→List Int→List Id
 | ids,_,[]=>ids
 | ids,next,c::cs=>zDo (ids.set c.toNat (idR next)) (next+1) cs
theorem zN8 (c:Int):∀(cs:List Int) (ids:List Id) (next:Int),zDo ids next (cs++[c])=(zDo ids next cs).set c.toNat (idR (next+cs.length))
 | [],ids,next=>by simp[zDo]
 | x::cs,ids,next=>by simp only[jBi,zDo];rw[zN8 c cs,jAd,show next+1+(cs.length:Int)=next+((cs.length+1:Nat):Int) by omega]
theorem zU2 {cs:List Int}{k:Nat}(h:k<cs.length)(ids:List Id)(next:Int):zDo ids next (cs.take (k+1))=(zDo ids next (cs.take k)).set cs[k].toNat (idR (next+k)):=by rw[jA9 h,zN8,jAt,jB9 (by omega)]
@[simp] theorem zIx:∀(cs:List Int) (ids:List Id) (next:Int),(zDo ids next cs).length=ids.length
 | [],_,_=>rfl
 | _::cs,ids,next=>by simp only[zDo]; rw[zIx cs,jDn]
theorem zLQ {c:Nat}:∀(cs:List Int) (ids:List Id) (next:Int),(∀x∈cs,0≤x∧x≠c)→(zDo ids next cs)[c]?=ids[c]?
 | [],_,_,_=>rfl
 | x::cs,ids,next,h=>by simp only[zDo];obtain⟨h1,h2⟩:=h x (by simp);rw[zLQ cs _ _ (fun y hy=>h y (by simp[hy])),jAf (by omega)]
theorem zQp:∀(cs:List Int) (ids:List Id) (next:Int),cs.Nodup→(∀x∈cs,0≤x∧x<ids.length)→∀(k:Nat) (h:k<cs.length),zE0 (zDo ids next cs) cs[k]=idR (next+k)
 | [],_,_,_,_,k,h=>by simp at h
 | x::cs,ids,next,hn,hb,0,h=>by
  rw[jCf]at hn;obtain⟨h1,h2⟩:=hb x (by simp);obtain⟨n,rfl⟩:∃n:Nat,x=n:=⟨x.toNat,by omega⟩;have hne:∀y∈cs,0≤y∧y≠n:=fun y hy=>⟨(hb y (by simp[hy])).1,fun e=>hn.1 (e▸hy)⟩
  simp only[jDc,zDo,zE0,jD,jC5];rw[zLQ cs _ _ hne,jAq (by omega)];simp
 | x::cs,ids,next,hn,hb,k+1,h=>by rw[jCf]at hn;simp only[zDo,jDy];have:=zQp cs (ids.set x.toNat (idR next)) (next+1) hn.2 (fun y hy=>by rw[jDn]; exact hb y (by simp[hy])) k (by simpa using h);rw[this,show next+1+(k:Int)=next+((k+1:Nat):Int) by omega]
def zB3 (d:Dfn):Bool:=!(decide (d.kind=0)||decide (d.kind=1))
structure NSt where
 ds:List Dfn
 ids:List Id
 next:Int
def zNu (s:NSt)(i:Nat):NSt:=match s.ds[i]? with
 | some d=>if zB3 d then ⟨s.ds.set i (d.wb (zBU (zE0 (zDo s.ids s.next (tmps d.body))) d.body)),zDo s.ids s.next (tmps d.body),s.next+(tmps d.body).length⟩ else s
 | none=>s
def zB7 (s:NSt):Nat→NSt
 | 0=>s
 | i+1=>zNu (zB7 s i) i
theorem zGg (s:NSt):∀i:Nat,(zB7 s i).ds.length=s.ds.length∧(zB7 s i).ids.length=s.ids.length
 | 0=>⟨rfl,rfl⟩
 | i+1=>by
  have ih:=zGg s i;simp only[zB7,zNu];split
  ·split
   ·simp[ih]
   ·exact ih
  ·exact ih
theorem zFn (s:NSt):∀(i j:Nat),i≤j→(zB7 s i).ds[j]?=s.ds[j]?
 | 0,j,_=>rfl
 | i+1,j,h=>by
  have ih:=zFn s i j (by omega);simp only[zB7,zNu];split
  ·split
   ·simp only;rw[jAf (by omega),ih]
   ·exact ih
  ·exact ih
theorem zJb (s:NSt){i:Nat}{d:Dfn}(hd:s.ds[i]?=some d):zB7 s (i+1)=if zB3 d then ⟨(zB7 s i).ds.set i (d.wb (zBU (zE0 (zDo (zB7 s i).ids (zB7 s i).next (tmps d.body))) d.body)),zDo (zB7 s i).ids (zB7 s i).next (tmps d.body),(zB7 s i).next+(tmps d.body).length⟩ else zB7 s i:=by simp only[zB7,zNu];rw[zFn s i i (jA _),hd]
theorem zLt (s:NSt):∀i:Nat,(zB7 s i).ds.map Dfn.hd=s.ds.map Dfn.hd
 | 0=>rfl
 | i+1=>by
  have ih:=zLt s i;simp only[zB7,zNu];split
  ·rename_i d hd;split
   ·simp only; rw[zGC hd,ih]
   ·exact ih
  ·exact ih
theorem zNt (s:NSt){i:Nat}:∀(j:Nat),i<j→(zB7 s j).ds[i]?=(zB7 s (i+1)).ds[i]?
 | 0,h=>by omega
 | j+1,h=>by
  by_cases e:i=j
  ·rw[e]
  ·have ih:=zNt s (i:=i) j (by omega);rw[←ih];simp only[zB7,zNu];split
   ·split
    ·simp only;rw[jAf (by omega)]
    ·rfl
   ·rfl
theorem zG4 {ds:List Dfn}{i:Nat}(h:i<ds.length)(e:Exp):(zX ds).take (i*31+14)++(zF e++(zX ds).drop (i*31+14+15))=zX (ds.set i (ds[i].wb e)):=by
 have hs:=zQO (ds[i].wb e) h;rw[←hs];have hd:=yI h;have h1:(zX ds).take (i*31+14)=(zX ds).take (i*31)++(zO ds[i]).take 14:=by rw[List.take_add,hd,jC4 (by simp)]
 have h2:(zX ds).drop (i*31+14+15)=(zO ds[i]).drop 29++(zX ds).drop (i*31+31):=by
  have h3:(zX ds).drop (i*31+31)=zX (ds.drop (i+1)):=by rw[←jAs,hd,jD1 (zWn _)]
  rw[h3,jBe,←jAs,hd,List.drop_append_of_le_length (by simp)]
 rw[h1,h2,jAv]
 congr 1
end Go.Proofs.YthglhccibdlccaaGreatDoor
namespace Go.Proofs.YthglhccibdlccaaGreatDoor
open Go.Abs
def qAN:K:=(G [D 137 4 1,L 138 137 1,J 139 10 31,kd 140 39 31 1 kz0 [(0,31,(kt 139))],kP 141 39 31 352 138 140,D 142 4 1,S 142 141 1] (K.dops [(0,1,D 143 4 0),(1,1,L 144 143 1),(2,0,M 145 7),(3,0,M 146 9),(4,1,kX 147 145 146 11),(5,1,D 148 147 10),(6,1,L 149 148 1),(7,0,D 150 4 0),(8,0,L 151 150 1),(9,0,M 152 7),(10,0,M 153 9),(11,0,kX 154 152 153 11),(12,0,D 155 154 10),(13,0,L 156 155 1),(14,0,kX 157 151 156 6),(15,0,D 158 157 5),(16,0,L 159 158 1),(17,0,D 160 10 0),(18,0,J 161 160 3),(19,0,kd 162 29 3 1 [ki,ki,ki] [(0,3,(kt 161))]),(20,0,kP 163 29 3 24 159 162),(21,0,kX 164 144 149 6),(22,0,D 165 164 5),(23,0,S 165 163 1)]))
def qAM:K:=(G [M 213 13,M 214 14,kU 215 213,D 216 215 6,S 216 214 1] (G [M 217 13,D 218 15 4,J 219 218 3,kU 220 217,D 221 220 7,S 221 219 3] (G [M 222 13,kU 223 222,D 224 223 5,⟨none,.st none (kt 224) (kc 14) 1⟩] (G [M 225 13,kU 226 225,D 227 226 10,⟨none,.st none (kt 227) (kc 0) 1⟩] (Z (K.dops [(0,2,D 228 4 1),(1,4002,L 229 228 1),(2,0,M 230 14),(3,0,M 231 13),(4,0,D 232 15 9),(5,0,J 233 232 5),(6,0,M 234 16),(7,3002,kC 235 34 [(kt 231),(kt 233),(kt 234),(kc 4)]),(8,4002,kX 236 229 230 31),(9,4002,D 237 236 14),(10,0,S 237 235 15)]) (G [D 238 4 1,L 239 238 1,M 240 14,kX 241 239 240 31,D 242 241 14,J 243 242 15,kC 244 35 [(kt 243)],kBi 245 244 30 .gtr] (Y 245 (G [M 246 13,kU 247 246,D 248 247 5,⟨none,.st none (kt 248) (kc 0) 1⟩] (K.dops [(0,2,D 249 4 1),(1,4002,L 250 249 1),(2,0,M 251 14),(3,0,M 252 13),(4,0,D 253 15 9),(5,0,J 254 253 5),(6,0,M 255 16),(7,3002,kC 256 34 [(kt 252),(kt 254),(kt 255),(kc 0)]),(8,4002,kX 257 250 251 31),(9,4002,D 258 257 14),(10,0,S 258 256 15)])) ks)))))))
def zSh:K:=(G [M 259 13,kU 260 259,D 261 260 4,L 262 261 1,⟨none,.mop (some 263) (.mks 29 3 24 [ki,ki,ki]) [(kt 262),(kt 262)]⟩,M 18 263] (Z (G [kMi 19 0] (K.block 10 (K.loop (Z (G [M 264 19,D 265 4 1,L 266 265 1,kN 267 266,kB 268 264 267 .lss] (Y 268 ks (K.exit 10))) (Z (K.block 11 (Z (G [D 271 4 1,L 272 271 1,M 273 19,kX 274 272 273 31,D 275 274 3,L 276 275 1,kQi 277 276 0 false,M 278 277,T 278 false (D 279 4 1),T 278 false (L 280 279 1),T 278 false (M 281 19),T 278 false (kX 282 280 281 31),T 278 false (D 283 282 3),T 278 false (L 284 283 1),T 278 false (kQi 285 284 1 false),kPt 286 278 285] (Y 286 (K.exit 11) ks)) (G [D 287 4 1,L 288 287 1,M 289 19,kX 290 288 289 31,D 291 290 14,J 292 291 15,kC 293 36 [(kt 292),(.const kl)],M 20 293] (Z (G [kMi 21 0] (K.block 12 (K.loop (Z (G [M 294 21,M 295 20,kN 296 295,kB 297 294 296 .lss] (Y 297 ks (K.exit 12))) (Z (K.block 13 (Z (K.dops [(0,0,M 300 18),(1,0,M 301 20),(2,0,M 302 21),(3,0,kX 303 301 302 1),(4,0,L 304 303 1),(5,0,M 305 8),(6,0,kC 306 32 [(kt 305)]),(7,0,kX 307 300 304 3),(8,0,S 307 306 3)]) (K.ops [M 308 8,kBi 309 308 1 .add,M 8 309]))) (K.ops [M 298 21,kBi 299 298 1 .add,M 21 299])))))) (K.dops [(0,0,D 310 4 1),(1,0,L 311 310 1),(2,0,M 312 19),(3,0,D 313 4 1),(4,0,L 314 313 1),(5,0,M 315 19),(6,0,kX 316 314 315 31),(7,0,D 317 316 14),(8,0,J 318 317 15),(9,0,M 319 18),(10,0,kC 320 37 [(kt 318),(kt 319)]),(11,0,kX 321 311 312 31),(12,0,D 322 321 14),(13,0,S 322 320 15)]))))) (K.ops [M 269 19,kBi 270 269 1 .add,
 M 19 270])))))) (G [J 323 4 2,S 2 323 2] kr)))
def zSg:K:=(G [J 166 4 2,M 167 0,kb 168 [kl,kl,kl,ki,ki,ki,ki,ki,ki,ki,ki] [(0,2,(kt 166)),(2,1,(kt 167)),(3,1,(kc 24))],kO 169 168,M 13 169] (Z (G [kMi 14 0] (K.block 6 (K.loop (Z (G [M 170 14,D 171 4 1,L 172 171 1,kN 173 172,kB 174 170 173 .lss] (Y 174 ks (K.exit 6))) (Z (K.block 7 (G [D 177 4 1,L 178 177 1,M 179 14,kX 180 178 179 31,J 181 180 31,kZ 15 kz0,S 15 181 31] (Z (G [D 182 15 3,L 183 182 1,kQi 184 183 0 false,M 185 184,T 185 false (D 186 15 3),T 185 false (L 187 186 1),T 185 false (kQi 188 187 1 false),kPt 189 185 188] (Y 189 (K.exit 7) ks)) (G [kMn 16] (Z (G [kMi 17 0] (K.block 8 (K.loop (Z (G [M 190 17,D 191 15 8,L 192 191 1,kN 193 192,kB 194 190 193 .lss] (Y 194 ks (K.exit 8))) (Z (K.block 9 (K.dops [(0,0,M 197 16),(1,0,D 198 15 8),(2,0,L 199 198 1),(3,0,M 200 17),(4,0,kX 201 199 200 11),(5,0,D 202 201 0),(6,0,J 203 202 3),(7,0,D 204 15 8),(8,0,L 205 204 1),(9,0,M 206 17),(10,0,kX 207 205 206 11),(11,0,D 208 207 4),(12,0,J 209 208 5),(13,0,kb 210 kz7 [(0,3,(kt 203)),(4,5,(kt 209))]),(14,0,kd 211 96 9 1 kz7 [(0,9,(kt 210))]),(15,0,kP 212 96 9 88 197 211),(16,0,M 16 212)])) (K.ops [M 195 17,kBi 196 195 1 .add,M 17 196])))))) (K.wk qAM)))))) (K.ops [M 175 14,kBi 176 175 1 .add,M 14 176])))))) (K.wk zSh)))
def zVi:K:=(G [M 48 0,M 49 3,kC 50 33 [(kt 48),(kt 49)],M 7 50] (G [M 51 3,M 52 7,kN 53 52,kB 54 51 53 .add,M 8 54] (Z (G [kMi 9 0] (K.block 2 (K.loop (Z (G [M 55 9,M 56 7,kN 57 56,kB 58 55 57 .lss] (Y 58 ks (K.exit 2))) (Z (K.block 3 (Z (K.dops [(0,0,M 61 3),(1,0,M 62 9),(2,0,kB 63 61 62 .add),(3,1,kC 64 32 [(kt 63)]),(4,0,M 65 7),(5,0,M 66 9),(6,1,kX 67 65 66 11),(7,1,D 68 67 0),(8,1,L 69 68 1),(9,0,M 70 7),(10,0,M 71 9),(11,1,kX 72 70 71 11),(12,1,D 73 72 10),(13,1,L 74 73 1),(14,1,kC 75 32 [(kt 74)]),(15,0,M 76 7),(16,0,M 77 9),(17,1,kX 78 76 77 11),(18,1,D 79 78 1),(19,1,L 80 79 1),(20,0,M 81 7),(21,0,M 82 9),(22,1,kX 83 81 82 11),(23,1,D 84 83 5),(24,1,J 85 84 5),(25,0,kb 86 kz0 [(0,3,(kt 64)),(3,1,(kt 69)),(4,3,(kt 75)),(7,1,(kt 80)),(9,5,(kt 85))]),(26,0,kZ 10 kz0),(27,0,S 10 86 31)]) (Z (G [kMi 11 0] (K.block 4 (K.loop (Z (G [M 87 11,M 88 7,M 89 9,kX 90 88 89 11,D 91 90 2,L 92 91 1,kN 93 92,kB 94 87 93 .lss] (Y 94 ks (K.exit 4))) (Z (K.block 5 (Z (K.dops [(0,0,M 97 8),(1,1,kC 98 32 [(kt 97)]),(2,0,M 99 7),(3,0,M 100 9),(4,1,kX 101 99 100 11),(5,1,D 102 101 3),(6,1,L 103 102 1),(7,0,M 104 11),(8,1,kX 105 103 104 1),(9,1,L 106 105 1),(10,0,M 107 7),(11,0,M 108 9),(12,1,kX 109 107 108 11),(13,1,D 110 109 2),(14,1,L 111 110 1),(15,0,M 112 11),(16,1,kX 113 111 112 5),(17,1,J 114 113 5),(18,0,M 115 11),(19,0,kb 116 kz5 [(0,3,(kt 98)),(3,1,(kt 106)),(4,5,(kt 114)),(10,1,(kt 115))]),(20,0,kZ 12 kz5),(21,0,S 12 116 11)]) (Z (G [D 117 10 3,
 L 118 117 1,kQi 119 118 4 false] (Y 119 (K.ops [M 120 7,M 121 9,kX 122 120 121 11,D 123 122 4,L 124 123 1,M 125 11,kX 126 124 125 1,L 127 126 1,D 128 12 9,S 128 127 1]) ks)) (G [D 129 10 8,L 130 129 1,J 131 12 11,kd 132 90 11 1 kz5 [(0,11,(kt 131))],kP 133 90 11 112 130 132,D 134 10 8,S 134 133 1] (K.ops [M 135 8,kBi 136 135 1 .add,M 8 136]))))) (K.ops [M 95 11,kBi 96 95 1 .add,M 11 96])))))) (K.wk qAN)))) (K.ops [M 59 9,kBi 60 59 1 .add,M 9 60])))))) (K.wk zSg))))
def qHy:K:=G [kZ 2 [kl,kl]] (G [M 22 0,kC 23 31 [(kt 22),(kc 0),(kc 2)],⟨none,.bin (some 24) .add (kc 1) (kt 23)⟩,M 3 24] (G [kZ 4 [kl,kl]] (Z (G [kMi 5 0] (K.block 0 (K.loop (Z (G [M 25 5,M 26 3,kB 27 25 26 .lss] (Y 27 ks (K.exit 0))) (Z (K.block 1 (Z (K.dops [(0,0,M 30 5),(1,1,kC 31 32 [(kt 30)]),(2,0,⟨none,.bslice (some 32) 9 1 2 [(.string ⟨#[]⟩),(.string ⟨#[]⟩)] [(0,1,(.const (.string ⟨#[99,111,114,101]⟩))),(1,1,(.const (.string ⟨#[109,105,108,108]⟩)))]⟩),(3,0,M 33 5),(4,1,kX 34 32 33 1),(5,1,L 35 34 1),(6,0,kb 36 kz9 [(0,3,(kt 31)),(3,1,(kt 35))]),(7,0,kZ 6 kz9),(8,0,S 6 36 6)]) (Z (G [M 37 5,kQi 38 37 1 false] (Y 38 (K.ops [kC 39 32 [(kc 0)],kd 40 29 3 1 [ki,ki,ki] [(0,3,(kt 39))],D 41 6 4,S 41 40 1]) ks)) (K.ops [D 42 4 0,L 43 42 1,J 44 6 6,kd 45 84 6 1 kz9 [(0,6,(kt 44))],kP 46 84 6 88 43 45,D 47 4 0,S 47 46 1])))) (K.ops [M 28 5,kBi 29 28 1 .add,M 5 29])))))) (K.wk zVi))))
def qQI:Nat→Option (List (Nat×Nat)):=fun r=>match r with | 41=>some [(0,2),(1,4002),(2,0),(3,0),(4,0),(5,0),(6,0),(7,3002),(8,4002),(9,4002),(10,0)] | 44=>some [(0,2),(1,4002),(2,0),(3,0),(4,0),(5,0),(6,0),(7,3002),(8,4002),(9,4002),(10,0)] | 56=>some [(0,0),(1,0),(2,0),(3,0),(4,0),(5,0),(6,0),(7,0),(8,0),(9,0),(10,0),(11,0),(12,0),(13,0)] | _=>none
theorem qOu:qD prog Tryz.f9.ntmps qQI (Tryz.f9.body.getD .skip)=some qHy.erase:=by kernel_rfl
@[simp] theorem qP0:zA prog 9=true:=by kernel_rfl
abbrev zWD (p:Prg):=fin [RS.cell 2 2 true] (zGS 0 (.agg (zS p)) [])
theorem qKO (m:Mk)(M:List Md)(next:Int)(N:Nat)(hN:m.temp=N)(hN1:N≤10000000000)(h0:0≤next)(h1:next≤1000000)(hd8:m.defs.length≤100)
 (hb:∀d∈m.defs,zB3 d=true→d.body.under N∧(∀c∈tmps d.body,0≤c∧c<N)∧(tmps d.body).length≤1000000) :
 wpK prog 0 zSh (zWD ⟨M,(zB7 ⟨m.defs,zCY N,next⟩ m.defs.length).ds⟩) (qT [(2,.ptr 2 0),(4,.ptr 3 0),(8,int next),(13,.ptr 0 0)])
  (mkS m++[.box [.nil,.nil],.box [.sl M.length (qM M),.row 1 m.defs.length]]):=by
 generalize hs:(⟨m.defs,zCY N,next⟩:NSt)=s;have hsd:s.ds=m.defs:=by rw[←hs]
 have hsi:s.ids.length=N:=by rw[←hs]; simp[zCY]
 have hsn:s.next=next:=by rw[←hs]
 have hz:=zEQ N;have hz2:s.ids=zCY N:=by rw[←hs]
 have hnx:∀i≤m.defs.length,0≤(zB7 s i).next∧(zB7 s i).next≤1000000+1000000*i:=by
  intro i;induction i with
  | zero=>intro _; simp only[zB7,hsn]; omega
  | succ i ih =>
   intro hi;have ih:=ih (by omega);have hd:s.ds[i]?=some (m.defs[i]'(by omega)):=by rw[hsd,jA2 (by omega)]
   rw[zJb s hd];split
   ·rename_i hbd;have:=(hb _ (jA0 (by omega)) hbd).2.2;simp only;omega
   ·omega
 have h24:24*N≤281474976710656:=by omega
 unfold zSh;simp[mkS,mkB,hN,h24];refine⟨by omega,?_⟩;refine qW (S:=Nat) (fun i=>[(2,.ptr 0 0),(4,.ptr 1 0),(8,int (zB7 s i).next),(18,.row 3 N),(19,int i)])
  (fun i=>[.box [.nil,.nil],.box [.sl M.length (qM M),.row 2 m.defs.length],.row false 39 31 m.defs.length (zX (zB7 s i).ds),.row false 29 3 N (qE (zB7 s i).ids)]) (fun i=>i≤m.defs.length) (fun i=>m.defs.length-i) 0 (by simp)
  (zR [2,3,1,4] 0 (by decide) (by simp) (by simp[zB7,hsd,hz2,←hz]) (by simp[zB7,hsn])) ?_
 intro i hi;by_cases h:i<m.defs.length
 ·have hd:s.ds[i]?=some m.defs[i]:=by rw[hsd,jA2 (by omega)]
  have hst:=zJb s hd;have hcur:(zB7 s i).ds[i]?=some m.defs[i]:=by rw[zFn s i i (jA _)]; exact hd
  obtain⟨hlt,hce⟩:=jA4.1 hcur;obtain⟨hl1,hl2⟩:=zGg s i;have hbd:=hb _ (jA0 h);obtain⟨nx0,nx1⟩:=hnx i hi;have hw:=zG4 hlt (zBU (zE0 (zDo (zB7 s i).ids (zB7 s i).next (tmps m.defs[i].body))) m.defs[i].body);have hdr:=yI hlt;rw[hce]at hw hdr;have hi8:(i:Int)≤100:=by omega
  have wi:=zAk i (by omega);rw[hsd]at hl1;rw[hsi]at hl2;generalize hse:zB7 s (i+1)=s' at hst;generalize hte:zB7 s i=t at *
  generalize m.defs[i]=d at *
  have hb3:i*31+3+1≤m.defs.length*31:=by omega
  have hb14:i*31+14+15≤m.defs.length*31:=by omega
  have hdr3:List.drop (i*31+3) (zX t.ds)=(zO d++zX (t.ds.drop (i+1))).drop 3:=by rw[←jAs,hdr]
  have hdr14:List.drop (i*31+14) (zX t.ds)=(zO d++zX (t.ds.drop (i+1))).drop 14:=by rw[←jAs,hdr]
  have henc:zO d=(zO d).take 14++zF d.body++[.lit (.int .i64 d.place),.sl d.lay.length (yK d.lay)]:=rfl;by_cases hk0:d.kind=0
  ·have hbf:zB3 d=false:=by simp[zB3,hk0]
   rw[hbf]at hst;simp only[jAc,if_false]at hst;subst hst;simp[h,hdr3,hb3,hl1,zO,hk0];exact zU (i+1) h (by omega) (zR [0,1,2,3] 0 (by decide) (by simp) (by simp[hse]) (by simp[wi,hse]))
  ·by_cases hk1:d.kind=1
   ·have hbf:zB3 d=false:=by simp[zB3,hk1]
    rw[hbf]at hst;simp only[jAc,if_false]at hst;subst hst;simp[h,hdr3,hb3,hl1,zO,hk1];exact zU (i+1) h (by omega) (zR [0,1,2,3] 0 (by decide) (by simp) (by simp[hse]) (by simp[wi,hse]))
   ·have hbf:zB3 d=true:=by simp[zB3,hk0,hk1]
    rw[hbf]at hst;simp only[if_true]at hst;obtain⟨bu,bc,bl⟩:=hbd hbf;have hnum:=zR5 d.body (by omega);simp[h,hdr3,hb3,hl1,zO,hk0,hk1,hdr14,hb14];refine zN hnum [] (by simp) (by simp) (by simp[zF]) ?_;generalize hO:tmps d.body=O at *
    simp[zCU];refine qW (S:=Nat) (fun k=>[(2,.ptr 0 0),(4,.ptr 1 0),(8,int (t.next+k)),(18,.row 3 N),(19,int i),(20,.row 4 O.length),(21,int k)])
     (fun k=>[.box [.nil,.nil],.box [.sl M.length (qM M),.row 2 m.defs.length],.row false 39 31 m.defs.length (zX t.ds),.row false 29 3 N (qE (zDo t.ids t.next (O.take k))),zCU O]) (fun k=>k≤O.length) (fun k=>O.length-k) 0 (by simp)
     (zR [0,1,2,3,4] 0 (by decide) (by simp) (by simp[zCU,zDo]) (by simp)) ?_
    intro k hk;by_cases hkl:k<O.length
    ·obtain⟨hc0,hc1⟩:=bc O[k] (jA0 hkl);obtain⟨c,hc⟩:∃c:Nat,O[k]=c:=⟨O[k].toNat,by omega⟩;have hod:=zE9 hkl;rw[hc]at hod hc1;have hcN:c<N:=by omega
     have hst2:=zU2 hkl t.ids t.next;rw[hc]at hst2;have hsl:(zDo t.ids t.next (O.take k)).length=N:=by rw[zIx]; exact hl2
     have hset:=zHm (R:=zDo t.ids t.next (O.take k)) (k:=c) (idR (t.next+k)) (by omega);have wk1:=zAk k (by omega);have wk2:=qF (t.next+(k:Int)+1) (by omega);have hb3c:c*3+3≤N*3:=by omega
     have hkl':k+1≤O.length:=hkl;simp[zCU,hkl,hkl',hod];refine qK (zF6 (t.next+k)) (by simp) (by simp) ?_;simp[jF,hcN,hsl,hb3c];exact zU (k+1) hkl (by omega) (zR [0,1,2,3,4] 0 (by decide) (by simp) (by simp[zCU,hst2,←hset,jF]) (by simp[wk1,wk2]; omega))
    ·have hke:k=O.length:=by omega
     subst hke;have hren:=zLH (zDo t.ids t.next O) d.body (by rw[zIx,hl2]; exact bu);have hsl:(zDo t.ids t.next O).length=N:=by rw[zIx]; exact hl2
     unfold zAq at hren;rw[hsl]at hren;rw[jAp];simp[zCU,h,hl1,hdr14,hb14,zO];refine qDn hren [3] (by simp) (by simp) (by simp[zF]) (by simp) (by simp) ?_;simp[h,hl1,hb14];exact zU (i+1) h (by omega) (zR [0,1,2,3] 0 (by decide) (by simp) (by simp[hse,hst,←hw]) (by simp[wi,hse,hst]))
 ·have hie:i=m.defs.length:=by omega
  subst hie;obtain⟨hl1,hl2⟩:=zGg s m.defs.length;rw[hsd]at hl1;simp;exact zC 1 (by simp[zS,hl1])
end Go.Proofs.YthglhccibdlccaaGreatDoor
namespace Go.Abs
section
variable {d:Option Nat}{x i:Operand}{n f:Nat}{g:Bool}{env:Env}{l:List Operand}
@[simp] theorem qGj (h1:4000≤f):zBi f (.ld d x n g) env=zCb (f-4000) (ev env x):=propext (zQt h1)
@[simp] theorem qE8 (h1:4000≤f):zBi f (.idx d x i n) env=isRow (ev env x):=propext (zNB h1)
@[simp] theorem qGi {o:Nat}(h1:6<f):zBi f (.addr d x o) env=True:=by
 unfold zBi;split
 ·omega
 ·omega
 ·split
  ·rfl
  ·split
   ·rfl
   ·split<;>rfl
@[simp] theorem qE7 (h1:6<f):zBi f (.call d x l) env=True:=by
 unfold zBi;split
 ·omega
 ·omega
 ·split
  ·rfl
  ·split
   ·rfl
   ·split<;>rfl
@[simp] theorem qNf {σ : St}(h1:2<f):zD8 f σ = σ:=by unfold zD8; rw[if_neg (by omega),if_neg (by omega)]
end
theorem qCa {a a' x x' y y' z z':List A}{fz fz':Bool}{e:TypeId}{s n:Nat}{cs cs':List A}:zMs [.box a,.row fz e s n cs,.box x,.box y,.box z] [.box a',.row fz' e s n cs',.box x',.box y',.box z']:=by
 intro l f e2 s2 n2 c2 h
 match l,h with
 | 0,h=>simp at h
 | 1,h =>
  simp at h;obtain⟨rfl,rfl,rfl,rfl,rfl⟩:=h;exact⟨fz',cs',rfl⟩
 | 2,h=>simp at h
 | 3,h=>simp at h
 | 4,h=>simp at h
 | n+5,h=>simp at h
end Go.Abs
namespace Go.Proofs.YthglhccibdlccaaGreatDoor
open Go.Abs
theorem zWq {d:Dfn}{j:Nat}(h:j<d.slots.length):(zBk d)[j]'(by simpa using h)=⟨d.slots[j].id,0,d.slots[j].typ⟩:=by simp[zBk]
theorem qKN (l:List Int)(M:List Md)(n:Nat)(hn:n≤100)(next:Int)(m0:Mk)(hm0:m0={mods:=M,defs:=m0.defs,l:=l,at_:=24,temp:=0,left:=0,own:=0,home:=Id.zero,name:=0})(ms:Nat→Mk)(h0:ms 0=m0)
 (hlen:∀i≤n,(ms i).defs.length=n)(hsl:∀i≤n,∀d∈(ms i).defs,d.slots.length≤6)(hst:∀i<n,zRX i (ms i) (ms (i+1)))(p:Prg)
 (hD:wpK prog 0 zSh (zWD p) (qT [(2,.ptr 2 0),(4,.ptr 3 0),(8,int next),(13,.ptr 0 0)]) (mkS (ms n)++[.box [.nil,.nil],.box [.sl M.length (qM M),.row 1 (ms n).defs.length]])) :
 wpK prog 0 zSg (zWD p) (qT [(0,.sl l.length (yH l)),(2,.ptr 0 0),(4,.ptr 1 0),(8,int next)])
  [.box [.nil,.nil],.box [.sl M.length (qM M),.row 2 n],.row false 39 31 n (zX m0.defs)]:=by
 have hl0:=hlen 0 (by omega);rw[h0]at hl0;have e0:mkS m0=[.box [.sl M.length (qM M),.row 1 n,.sl l.length (yH l),int 24,int 0,int 0,int 0,int 0,int 0,int 0,int 0],.row false 39 31 n (zX m0.defs)]:=by rw[hm0];simp[mkS,mkB,Id.zero,hl0]
 unfold zSg;simp;refine qW (S:=Nat) (fun i=>[(2,.ptr 2 0),(4,.ptr 3 0),(8,int next),(13,.ptr 0 0),(14,int i)])
  (fun i=>mkS (ms i)++[.box [.nil,.nil],.box [.sl M.length (qM M),.row 1 n]]) (fun i=>i≤n) (fun i=>n-i) 0 (by simp)
  (zR [3,2,0,1] 0 (by decide) (by simp) (by simp[h0,e0]) (by simp)) ?_
 intro i hi;by_cases h:i<n
 ·obtain⟨d,hd,hcase⟩:=hst i h;obtain⟨hlt,hce⟩:=jA4.1 hd;have hli:=hlen i hi;have hd6:=hsl i hi d (hce▸jA0 hlt);generalize hms':ms (i+1)=m' at hcase;generalize hms:ms i=m at *
  have hdr:=yI hlt;have hi8:(i:Int)≤100:=by omega
  have wi:=zAk i (by omega);rw[hce]at hdr;have hb31:i*31+31≤n*31:=by omega
  rcases hcase with ⟨hk,hm'⟩ | ⟨⟨hk0,hk1⟩,e1,m1,g1,gd,gm,gl,hcase⟩
  ·subst hm';rcases hk with hk | hk
   ·simp[mkS,mkB,h,hdr,hb31,hli,zO,hk];exact zU (i+1) h (by omega) (zR [0,1,2,3] 0 (by decide) (by simp) (by simp[mkS,mkB,hms',hli]) (by simp[wi]))
   ·simp[mkS,mkB,h,hdr,hb31,hli,zO,hk];exact zU (i+1) h (by omega) (zR [0,1,2,3] 0 (by decide) (by simp) (by simp[mkS,mkB,hms',hli]) (by simp[wi]))
  ·simp[mkS,mkB,h,hdr,hb31,hli,zO,hk0,hk1];refine qW (S:=Nat) (fun j=>[(2,.ptr 2 0),(4,.ptr 3 0),(8,int next),(13,.ptr 0 0),(14,int i),(15,.ptr 4 0),(16,.row 5 j),(17,int j)])
    (fun j=>mkS m++[.box [.nil,.nil],.box [.sl M.length (qM M),.row 1 n],.box (zO d),.row false 96 9 j (zQ ((zBk d).take j))]) (fun j=>j≤d.slots.length) (fun j=>d.slots.length-j) 0 (by simp)
    ((yG (t:=16) (by simp) 96 9).trans (zR [0,1,2,3,4,5] 0 (by decide) (by simp) (by simp[mkS,mkB,zO,hli]) (by simp))) ?_
   intro j hj;by_cases hjl:j<d.slots.length
   ·have hdS0:List.drop (j*11) (yE d.slots)=zAu d.slots[j]++yE (d.slots.drop (j+1)):=jU hjl;have hdS:List.drop (j*11+4) (yE d.slots)=(zAu d.slots[j]++yE (d.slots.drop (j+1))).drop 4:=by rw[←jAs,hdS0]
    have hbS:j*11+4+5≤d.slots.length*11:=by omega
    have hbS3:j*11+3≤d.slots.length*11:=by omega
    have hst2:=zIB (l:=zBk d) (i:=j) (by simpa using hjl);rw[zWq hjl]at hst2;have wj:=zAk j (by omega);simp[mkS,mkB,zO,hjl,hdS0,hdS,hbS,hbS3,zAu];intro _;refine⟨⟨by simp[maxLen]; omega,by omega⟩,?_⟩;exact zU (j+1) hjl (by omega) (zR [0,1,2,3,4,5] 0 (by decide) (by simp) (by simp[mkS,mkB,zO,hst2,zAS]) (by simp[wj]))
   ·have hje:j=d.slots.length:=by omega
    subst hje;have hall:(zBk d).take d.slots.length=zBk d:=jAk (by simp);have hw1:=zG4 hlt e1;rw[hce]at hw1;have hdr14:List.drop (i*31+14) (zX (m.defs.set i (d.wb e1)))=(zO (d.wb e1)++zX ((m.defs.set i (d.wb e1)).drop (i+1))).drop 14:=by have:=yI (l:=m.defs.set i (d.wb e1)) (i:=i) (by simpa using hlt);rw[←jAs,this,jDz]
    have hb14:i*31+14+15≤n*31:=by omega
    have hnodes:=zPK e1 gl;simp[mkS,mkB,zO];intro _;refine⟨qT [(2,.ptr 2 0),(4,.ptr 3 0),(8,int next),(13,.ptr 0 0),(14,int i),(15,.ptr 4 0),(16,.sl (zBk d).length (zQ (zBk d)))],mkS m++[.box [.nil,.nil],.box [.sl M.length (qM M),.row 1 n],.box (zO d)],
     zR [0,1,2,3,4] 1 (by decide) (by simp) (by simp[mkS,mkB,zO]) (by simp[hall]),?_⟩
    unfold qAM;simp[mkS,mkB,zO];refine zSx g1 [0,1] (by decide) (by simp[mkS,mkB,mkA]) (by simp[zB]) (by simp) (by simp) (by simp[mkS]) (by simp[mkS,gd,hli]; exact qCa) ?_;have hclen:(zX m.defs).length=n*31:=by rw[zQN,hli]
    have hdq:∀X:List A,List.drop (i*31+14) (List.take (i*31+14) (zX m.defs)++X)=X:=fun X=>jD1 (by rw[jAt,hclen]; omega)
    have hlen15:i*31+14+15≤min (i*31+14) (n*31)+(15+(n*31-(i*31+14+15))):=by omega
    simp[mkS,mkB,gd,hli,h,hb14,hdq,hlen15];refine zT hnodes (by simp) (by simp) ?_;rcases hcase with ⟨c30,hm'⟩ | ⟨c30,e2,m2,g2,gd2,gm2,hm'⟩
    ·have c30':¬(30:Int)<(tmps e1).length:=by omega
     simp[c30'];exact zU (i+1) h (by omega) (zR [0,1,2,3] 0 (by decide) (by simp) (by simp[mkS,mkB,hms',hm',mkD,gd,hli,←hw1]) (by simp[wi]))
    ·have c30':(30:Int)<(tmps e1).length:=by omega
     have hw2:=zG4 (ds:=m.defs.set i (d.wb e1)) (i:=i) (by simpa using hlt) e2;rw[jDz]at hw2;have hww:(d.wb e1).wb e2=d.wb e2:=rfl;rw[hww,List.set_set]at hw2;simp[c30',hw1];refine zSx g2 [0,1] (by decide) (by simp[mkS,mkB,mkL,mkD,gd,hli]) (by simp[zB]) (by simp) (by simp) (by simp[mkS]) (by simp[mkS,gd2,hli]; exact qCa) ?_;simp[mkS,mkB,gd2,hli,h,hb14];exact zU (i+1) h (by omega) (zR [0,1,2,3] 0 (by decide) (by simp) (by simp[mkS,mkB,hms',hm',mkD,gd2,hli,←hw2]) (by simp[wi]))
 ·have hie:i=n:=by omega
  subst hie;have hli:=hlen i hi;simp[mkS,mkB,hli];exact⟨_,_,zR [0,1,2,3] 0 (by decide) (by simp) (by simp[mkS,mkB,hli]) (by simp),hD⟩
theorem zOP {l:List ByteArray}{i:Nat}(h:i<l.length):(yK l).drop i=.lit (.string l[i])::yK (l.drop (i+1)):=by have:=zCu (enc:=zWo) (k:=1) (fun _=>rfl) h;rw[Nat.mul_one]at this;exact this
theorem zNj (mods:Int)(ps:List Pln)(c:Int){i:Nat}(h:i<ps.length):zFD mods ps c (i+1)=zFD mods ps c i++(if ps[i].mod=c then [idR (mods+i)] else []):=by
 simp only[zFD,List.range_succ,jDi,jB1]
 congr 1
 simp only[List.filter_cons,jA2 h,List.filter_nil,decide_eq_true_eq];split<;>simp
theorem zUe {mods:Int}{ps:List Pln}{c:Int}(h:∀p∈ps,p.mod≠c)(i:Nat):zFD mods ps c i=[]:=by
 simp only[zFD,List.map_eq_nil_iff,List.filter_eq_nil_iff];intro j _;split
 ·rename_i p hp;have:=h p (jBt hp)
  simpa using this
 ·simp
theorem zPt (mods:Int)(ps:List Pln)(c:Int)(i:Nat):(zFD mods ps c i).length≤i:=by simp only[zFD,jAa];exact jBp (jBu _ _) (by simp)
def m0C:List A:=[int (idR 0).a,int (idR 0).b,int (idR 0).c,.lit (.string ⟨#[99,111,114,101]⟩)]
def m1C:List A:=[int (idR 1).a,int (idR 1).b,int (idR 1).c,.lit (.string ⟨#[109,105,108,108]⟩),.fsl 1 (jF (idR 0))]
def MC:Nat→List A
 | 0=>[]
 | 1=>m0C++[.nil,.nil]
 | _=>m0C++[.nil,.nil]++m1C++[.nil]
def MR (nm k0 k1:Nat):List A:=if nm=1 then m0C++[.row 5 k1,.row 4 k0] else m0C++[.nil,.row 4 k0]++m1C++[.row 5 k1]
theorem zTi {rf:Bool→Nat→Nat→A}{g:Nat→Option Nat}{nm k0 k1:Nat}(h4:g 4=some 4)(h5:g 5=some 5):vwL rf g (MR nm k0 k1)=MR nm k0 k1:=by unfold MR;split<;>simp[m0C,m1C,h4,h5,jF]
def stB (nm:Nat)(ps:List Pln)(i:Nat):St :=
 [.box [.nil,.nil],.box [.row 2 nm,.row 3 i],.row false 84 6 nm (MR nm (zFD nm ps 0 i).length (zFD nm ps 1 i).length),.row false 39 31 i (zX ((zEf nm ps).take i)),
  .row false 29 3 (zFD nm ps 0 i).length (qE (zFD nm ps 0 i)),.row false 29 3 (zFD nm ps 1 i).length (qE (zFD nm ps 1 i))]
theorem zMv (next:Int)(p:Pln){k:Nat}(h:k<p.types.length):yE ((zBw next p).take (k+1))=yE ((zBw next p).take k)++zAu (zNA next p k):=by
 have:=zIE (l:=zBw next p) (i:=k) (by simpa using h);rw[this]
 congr 2
 simp[zBw]
theorem qKM (l:List Int)(hl:∀x∈l,w64 x=x)(nm:Nat)(hnm:nm=1∨nm=2)(ps:List Pln)(hps:ps=qC l nm)(p:Prg)
 (hC:wpK prog 0 zSg (zWD p) (qT [(0,.sl l.length (yH l)),(2,.ptr 0 0),(4,.ptr 1 0),(8,int (zA9 nm ps ps.length))])
  [.box [.nil,.nil],.box [.sl (zIl nm ps).length (qM (zIl nm ps)),.row 2 ps.length],.row false 39 31 ps.length (zX (zEf nm ps))]) :
 wpK prog 0 zVi (zWD p) (qT [(0,.sl l.length (yH l)),(2,.ptr 0 0),(3,int nm),(4,.ptr 1 0)])
  [.box [.nil,.nil],.box [.row 2 nm,.row 3 0],.row false 84 6 nm (MC nm),.row false 39 31 0 []]:=by
 have hpl:=zXy l nm (by omega) (by omega) hl;have hok:=zBs l nm (by omega) (by omega) hl;have hlen:=(zAE l nm).2;rw[←hps]at hpl hok hlen;have hnr:=zCw (mods:=nm) (ps:=ps) (by omega) (fun p hp=>(hok p hp).t6);have w0:=qF ((nm:Int)+ps.length) (by omega);have start:zBL 0 (qT [(0,.sl l.length (yH l)),(2,.ptr 0 0),(3,int nm),(4,.ptr 1 0),(7,.sl ps.length (yY ps)),(8,int (nm+ps.length)),(9,int 0)]) (stB nm ps 0)
  (qT [(0,.sl l.length (yH l)),(2,.ptr 0 0),(3,int nm),(4,.ptr 1 0),(7,.sl ps.length (yY ps)),(8,int (nm+ps.length)),(9,int 0)])
  [.box [.nil,.nil],.box [.row 2 nm,.row 3 0],.row false 84 6 nm (MC nm),.row false 39 31 0 []]:=by
  rcases hnm with rfl | rfl
  ·exact((zEr (l:=2) (o:=5) rfl rfl 29 3).trans (zEr (l:=2) (o:=4) rfl rfl 29 3)).trans (zR [0,1,2,3,4,5] 0 (by decide) (by simp) (by simp[stB,MC,MR,m0C,m1C,zFD]) (by simp))
  ·exact((zEr (l:=2) (o:=5) rfl rfl 29 3).trans (zEr (l:=2) (o:=11) rfl rfl 29 3)).trans (zR [0,1,2,3,4,5] 0 (by decide) (by simp) (by simp[stB,MC,MR,m0C,m1C,zFD,jF]) (by simp))
 have hl1:(zEf nm ps).length=ps.length:=zT3 _ _;unfold zVi;simp;refine zT hpl (by simp) (by simp) ?_;simp[w0];intro _;refine qW (S:=Nat) (fun i=>[(0,.sl l.length (yH l)),(2,.ptr 0 0),(3,int nm),(4,.ptr 1 0),(7,.sl ps.length (yY ps)),(8,int (zA9 nm ps i)),(9,int i)]) (fun i=>stB nm ps i) (fun i=>i≤ps.length) (fun i=>ps.length-i) 0 (by simp)
  (zBL.trans (zR [0,1,2,3] 0 (by decide) (by simp) (by rcases hnm with rfl | rfl<;>simp[MC,m0C,m1C]) (by simp)) start) ?_
 intro i hi;by_cases h:i<ps.length
 ·have hpk:=hok _ (jA0 h);obtain⟨n0,n1⟩:=hnr i;have hns:=zLv nm ps h;have hdg:=zIK nm ps h;have hst:=zIC (l:=zEf nm ps) (i:=i) (by omega);rw[hdg]at hst;clear hdg;have hcg:=zON h;have i0:=zNj nm ps 0 h;have i1:=zNj nm ps 1 h;have l0:=zPt nm ps 0 i;have l1:=zPt nm ps 1 i;have hi8:(i:Int)≤8:=by omega
  have wi:=zAk i (by omega);have wmi:=qF ((nm:Int)+i) (by omega);have hcg5:List.drop (i*11+5) (yY ps)=(zBj ps[i]++yY (ps.drop (i+1))).drop 5:=by rw[←jAs,hcg]
  have hb5:i*11+5+5≤ps.length*11:=by omega
  generalize ps[i]=q at *
  generalize zA9 nm ps i=nx at *
  simp[stB,h,hcg,hcg5,hb5,zBj,wmi];intro _;refine zAw (zF6 (nm+i)) (by simp) (by simp) ?_;simp[h,hcg,hcg5,hb5,zBj];refine zAw (zF6 q.mod) (by simp) (by simp) ?_;simp[h,hcg,hcg5,hb5,zBj,jF];refine qW (S:=Nat) (fun k=>[(0,.sl l.length (yH l)),(2,.ptr 0 0),(3,int nm),(4,.ptr 1 0),(7,.sl ps.length (yY ps)),(8,int (nx+k)),(9,int i),(10,.ptr 6 0),(11,int k)])
   (fun k=>stB nm ps i++[.box [int (idR (nm+i)).a,int (idR (nm+i)).b,int (idR (nm+i)).c,int q.kind,int (idR q.mod).a,int (idR q.mod).b,int (idR q.mod).c,.lit (.string q.name),.row 7 k,int q.out.k,int q.out.id.a,int q.out.id.b,int q.out.id.c,.sl q.out.kids.length (jH q.out.kids),int 0,int 0,int 0,int 0,int 0,int 0,int 0,int 0,int 0,int 0,int 0,int 0,.nil,.nil,.nil,int 0,.nil],
    .row false 90 11 k (yE ((zBw nx q).take k))]) (fun k=>k≤q.types.length) (fun k=>q.types.length-k) 0 (by simp)
   ((zAv (l:=6) (o:=8) rfl rfl 90 11).trans (zR [0,1,2,3,4,5,6,7] 0 (by decide) (by simp) (by simp[stB,zTi]) (by simp))) ?_
  intro k hk;by_cases hkl:k<q.types.length
  ·have hnl:=hpk.names;have hkn:k<q.names.length:=by omega
   have hN:=zOP hkn;have hT:=zCt hkl;have hT5:k*5+5≤q.types.length*5:=by omega
   have hS:=zMv nx q hkl;have t6:=hpk.t6;have wnk:=qF (nx+(k:Int)+1) (by omega);have wk:=zAk k (by omega);have hcg2:List.drop (i*11+2) (yY ps)=(zBj q++yY (ps.drop (i+1))).drop 2:=by rw[←jAs,hcg]
   have hsv:zNA nx q k=⟨idR (nx+k),q.names[k],q.types[k],if q.kind=4 then q.most.getD k 0 else 0,k⟩:=by simp[zNA,jC5,hkn,hkl]
   rw[hsv]at hS;by_cases hk4:q.kind=4
   ·have hkm:k<q.most.length:=by have:=hpk.most hk4; omega
    have hM:=zE9 hkm;have hmg:q.most[k]?.getD 0=q.most[k]:=by simp[hkm]
    have hkm':k+1≤q.most.length:=hkm;simp[stB,h,hcg,zBj,hkl]
    intros
    refine zAw (zF6 (nx+k)) (by simp) (by simp) ?_;simp[h,hcg,zBj,hkn,hkl,hN,hT,hT5,zB,hk4,jF,hM,hkm,hkm']
    intros
    refine⟨⟨by simp[maxLen]; omega,by omega⟩,?_⟩;exact zU (k+1) hkl (by omega) (zR [0,1,2,3,4,5,6,7] 0 (by decide) (by simp) (by rw[hS]; simp[stB,zTi,zAu,hk4,hmg]) (by simp[wk,wnk]; omega))
   ·simp[stB,h,hcg,zBj,hkl]
    intros
    refine zAw (zF6 (nx+k)) (by simp) (by simp) ?_;simp[h,hcg,zBj,hkn,hkl,hN,hT,hT5,zB,hk4,jF]
    intros
    refine⟨⟨by simp[maxLen]; omega,by omega⟩,?_⟩;exact zU (k+1) hkl (by omega) (zR [0,1,2,3,4,5,6,7] 0 (by decide) (by simp) (by rw[hS]; simp[stB,zTi,zAu,hk4]) (by simp[wk,wnk]; omega))
  ·have hke:k=q.types.length:=by omega
   subst hke;have hall:(zBw nx q).take q.types.length=zBw nx q:=jAk (by simp);have t6:=hpk.t6;simp[stB,h,hcg,zBj]
   intros
   refine⟨qT [(0,.sl l.length (yH l)),(2,.ptr 0 0),(3,int nm),(4,.ptr 1 0),(7,.sl ps.length (yY ps)),(8,int (nx+q.types.length)),(9,int i),(10,.ptr 6 0)],stB nm ps i++[.box (zO (zOU nm nx i q))],
    zR [0,1,2,3,4,5,6] 1 (by decide) (by simp) (by simp[stB,zTi,zO,zOU,hall,Exp.zero,Id.zero,Typ.zero]) (by simp),?_⟩
   unfold qAN;have m0:=hpk.mod0;have m1:=hpk.mod1;have hen:zO (zOU nm nx i q)=jF (idR (nm+i))++(zO (zOU nm nx i q)).drop 3:=rfl;have hcase:nm=1∧q.mod=0∨nm=2∧q.mod=0∨nm=2∧q.mod=1:=by omega
   have hd3:List.take 3 (zO (zOU nm nx i q))=[int (idR (nm+i)).a,int (idR (nm+i)).b,int (idR (nm+i)).c]:=rfl;rcases hcase with ⟨rfl,hq⟩ | ⟨rfl,hq⟩ | ⟨rfl,hq⟩
   ·have en:((1:Nat):Int)=1:=rfl;simp only[hq,en,if_true,if_false,show ((0:Int)=1)=False from by simp,show ((1:Int)=0)=False from by simp,jAz]at i0 i1 hst hns l0 l1 hd3;simp[stB,h,hcg,zBj,hq,MR,m0C,m1C,jF];refine⟨by simp[maxLen]; omega,⟨by simp[maxLen]; omega,by omega⟩,?_⟩;exact zU (i+1) h (by omega) (zR [0,1,2,3,4,5] 0 (by decide) (by simp) (by simp[stB,MR,m0C,m1C,jF,i0,i1,hst,hd3,jS]) (by simp[wi,hns]))
   ·have en:((2:Nat):Int)=2:=rfl;simp only[hq,en,if_true,if_false,show ((0:Int)=1)=False from by simp,show ((1:Int)=0)=False from by simp,jAz]at i0 i1 hst hns l0 l1 hd3;simp[stB,h,hcg,zBj,hq,MR,m0C,m1C,jF];refine⟨by simp[maxLen]; omega,⟨by simp[maxLen]; omega,by omega⟩,?_⟩;exact zU (i+1) h (by omega) (zR [0,1,2,3,4,5] 0 (by decide) (by simp) (by simp[stB,MR,m0C,m1C,jF,i0,i1,hst,hd3,jS]) (by simp[wi,hns]))
   ·have en:((2:Nat):Int)=2:=rfl;simp only[hq,en,if_true,if_false,show ((0:Int)=1)=False from by simp,show ((1:Int)=0)=False from by simp,jAz]at i0 i1 hst hns l0 l1 hd3;simp[stB,h,hcg,zBj,hq,MR,m0C,m1C,jF];refine⟨by simp[maxLen]; omega,⟨by simp[maxLen]; omega,by omega⟩,?_⟩;exact zU (i+1) h (by omega) (zR [0,1,2,3,4,5] 0 (by decide) (by simp) (by simp[stB,MR,m0C,m1C,jF,i0,i1,hst,hd3,jS]) (by simp[wi,hns]))
 ·have hie:i=ps.length:=by omega
  subst hie;have hall:(zEf nm ps).take ps.length=zEf nm ps:=jAk (by simp);simp[stB]
  intros
  rcases hnm with rfl | rfl
  ·have hn1:zFD ((1:Nat):Int) ps 1 ps.length=[]:=zUe (fun p hp=>by have:=(hok p hp).mod1; omega) _;have en:((1:Nat):Int)=1:=rfl;simp only[en]at hn1 hall;exact⟨_,_,zR [0,1,3] 2 (by decide) (by simp) (by simp[zIl,MR,m0C,m1C,zCs,zEv,hall,hn1]) (by simp),hC⟩
  ·have en:((2:Nat):Int)=2:=rfl;simp only[en]at hall;exact⟨_,_,zR [0,1,3] 2 (by decide) (by simp) (by simp[zIl,MR,m0C,m1C,zCs,zEv,hall,jF]) (by simp),hC⟩
theorem zQu {e:Exp}{c:Int}(hc:c∈tmps e):∀{ks:List Exp},e∈ks→c∈jL ks
 | x::ks,h=>by
  simp only[jL,jA8];rcases jA3.1 h with rfl | h
  ·exact .inl hc
  ·exact .inr (zQu hc h)
theorem zSA:∀(ks:List Exp),ks.length≤(jL ks).length
 | []=>jA _
 | e::ks=>by
  have:=zSA ks;have h1:1≤(tmps e).length:=by rw[zA7,jA5,jAl]; omega
  simp only[jL,jA5,jAd];omega
section
variable {N:Nat}{i:Id}{k n:Int}{r:Id}{t:Typ}{ks:List Exp}{ns:List ByteArray}
theorem yP (hb:∀c∈tmps (.mk i k n r t ks ns),0≤c∧c<N)(hl:(tmps (.mk i k n r t ks ns)).length≤1000000000)(hk:k≠2)(hs:∀e∈ks,e.under N):(Exp.mk i k n r t ks ns).under N:=by simp only[Exp.under,zHA];have:=zSA ks;simp only[tmps,jA5,jAl]at hl;exact⟨hb i.c (by simp[tmps]),fun h=>(hk h).elim,by omega,hs⟩
theorem zBm (hb:∀c∈tmps (.mk i k n r t ks ns),0≤c∧c<N){e:Exp}(he:e∈ks):∀c∈tmps e,0≤c∧c<N:=fun c hc=>hb c (by simp only[tmps,jA8]; exact .inl (zQu hc he))
theorem zBn (hl:(tmps (.mk i k n r t ks ns)).length≤1000000000){e:Exp}(he:e∈ks):(tmps e).length≤1000000000:=by have:=zGr he;simp only[tmps,jA5,jAl]at hl;omega
end
theorem zXf {env:List Bnd}{x:Id}{n:Int}{t:Typ}(h:zCv env x n=some t):∃b∈env,b.id=x∧b.n=n∧b.typ=t:=by simp only[zCv,jAe]at h;obtain⟨b,hb,rfl⟩:=h;have h1:=jDb hb;have h2:=jDa hb;simp only[jA6,decide_eq_true_eq]at h2;exact⟨b,by simpa using h1,h2.1,h2.2,rfl⟩
theorem zXR {hs:List Hd}{own:Int}{N:Nat}{env:List Bnd}{e:Exp}{t:Typ}(h:WT hs own env e t):(∀b∈env,b.id.b=0→0≤b.id.c∧b.id.c<N)→(∀c∈tmps e,0≤c∧c<N)→(tmps e).length≤1000000000→e.under N:=by
 induction h with
 | int env i n h1 h2=>exact fun _ hb hl=>yP hb hl (by omega) (by simp)
 | bool env i n h=>exact fun _ hb hl=>yP hb hl (by omega) (by simp)
 | var env i n x t h =>
  intro he hb hl;simp only[Exp.under,zJy,and_true];obtain⟨b,h1,h2,_,_⟩:=zXf h;exact⟨hb i.c (by simp[tmps]),fun _ h0=>by rw[←h2]at h0 ⊢; exact he b h1 h0,by simp⟩
 | call env i k h ks ho hk hlen hw ih =>
  refine fun he hb hl=>yP hb hl (by omega) fun e hm=>?_
  obtain⟨j,hj,rfl⟩:=jAh hm;exact ih j hj he (zBm hb hm) (zBn hl hm)
 | arith env i n a b h1 h2 ha hb' iha ihb =>
  refine fun he hb hl=>yP hb hl (by omega) fun e hm=>?_
  have k1:=zBm hb hm;have k2:=zBn hl hm;simp only[jA3,jAw,or_false]at hm;rcases hm with rfl | rfl
  ·exact iha he k1 k2
  ·exact ihb he k1 k2
 | less env i a b ha hb' iha ihb =>
  refine fun he hb hl=>yP hb hl (by omega) fun e hm=>?_
  have k1:=zBm hb hm;have k2:=zBn hl hm;simp only[jA3,jAw,or_false]at hm;rcases hm with rfl | rfl
  ·exact iha he k1 k2
  ·exact ihb he k1 k2
 | same env i a b u ha hb' iha ihb =>
  refine fun he hb hl=>yP hb hl (by omega) fun e hm=>?_
  have k1:=zBm hb hm;have k2:=zBn hl hm;simp only[jA3,jAw,or_false]at hm;rcases hm with rfl | rfl
  ·exact iha he k1 k2
  ·exact ihb he k1 k2
 | andor env i n a b h ha hb' iha ihb =>
  refine fun he hb hl=>yP hb hl (by omega) fun e hm=>?_
  have k1:=zBm hb hm;have k2:=zBn hl hm;simp only[jA3,jAw,or_false]at hm;rcases hm with rfl | rfl
  ·exact iha he k1 k2
  ·exact ihb he k1 k2
 | not env i a ha iha =>
  refine fun he hb hl=>yP hb hl (by omega) fun e hm=>?_
  have k1:=zBm hb hm;have k2:=zBn hl hm;simp only[jA3,jAw,or_false]at hm;subst hm;exact iha he k1 k2
 | join env i a b t ha hb' iha ihb =>
  refine fun he hb hl=>yP hb hl (by omega) fun e hm=>?_
  have k1:=zBm hb hm;have k2:=zBn hl hm;simp only[jA3,jAw,or_false]at hm;rcases hm with rfl | rfl
  ·exact iha he k1 k2
  ·exact ihb he k1 k2
 | len env i a t ha iha =>
  refine fun he hb hl=>yP hb hl (by omega) fun e hm=>?_
  have k1:=zBm hb hm;have k2:=zBn hl hm;simp only[jA3,jAw,or_false]at hm;subst hm;exact iha he k1 k2
 | ite env i a b c t ha hb' hc iha ihb ihc =>
  refine fun he hb hl=>yP hb hl (by omega) fun e hm=>?_
  have k1:=zBm hb hm;have k2:=zBn hl hm;simp only[jA3,jAw,or_false]at hm;rcases hm with rfl | rfl | rfl
  ·exact iha he k1 k2
  ·exact ihb he k1 k2
  ·exact ihc he k1 k2
 | lets env i a b u t ns hn ha hb' iha ihb =>
  refine fun he hb hl=>yP hb hl (by omega) fun e hm=>?_
  have k1:=zBm hb hm;have k2:=zBn hl hm;have ki:=hb i.c (by simp[tmps]);simp only[jA3,jAw,or_false]at hm;rcases hm with rfl | rfl
  ·exact iha he k1 k2
  ·refine ihb (fun b hb0 h0=>?_) k1 k2;rcases jA8.1 hb0 with hb0 | hb0
   ·exact he b hb0 h0
   ·rw[jAg.1 hb0]; exact ki
 | record env i k h ks hk hlen hw ih =>
  refine fun he hb hl=>yP hb hl (by omega) fun e hm=>?_
  obtain⟨j,hj,rfl⟩:=jAh hm;exact ih j hj he (zBm hb hm) (zBn hl hm)
 | field env i k h j hj a hk ha iha =>
  refine fun he hb hl=>yP hb hl (by omega) fun e hm=>?_
  have k1:=zBm hb hm;have k2:=zBn hl hm;simp only[jA3,jAw,or_false]at hm;subst hm;exact iha he k1 k2
 | case env i k h j hj a hk ha iha =>
  refine fun he hb hl=>yP hb hl (by omega) fun e hm=>?_
  have k1:=zBm hb hm;have k2:=zBn hl hm;simp only[jA3,jAw,or_false]at hm;subst hm;exact iha he k1 k2
 | mtch env i k h a ks t ns hn hk hlen ha hw iha ih =>
  refine fun he hb hl=>yP hb hl (by omega) fun e hm=>?_
  have k1:=zBm hb hm;have k2:=zBn hl hm;have ki:=hb i.c (by simp[tmps]);rcases jA3.1 hm with rfl | hm
  ·exact iha he k1 k2
  ·obtain⟨j,hj,rfl⟩:=jAh hm;refine ih j hj (fun b hb0 h0=>?_) k1 k2;rcases jA8.1 hb0 with hb0 | hb0
   ·exact he b hb0 h0
   ·rw[jAg.1 hb0]; exact ki
 | list env i t ks hw ih =>
  refine fun he hb hl=>yP hb hl (by omega) fun e hm=>?_
  obtain⟨j,hj,rfl⟩:=jAh hm;exact ih j hj he (zBm hb hm) (zBn hl hm)
 | fold env i l s b u t ns hn hl' hs' hb' ihl ihs ihb =>
  refine fun he hb hl=>yP hb hl (by omega) fun e hm=>?_
  have k1:=zBm hb hm;have k2:=zBn hl hm;have ki:=hb i.c (by simp[tmps]);simp only[jA3,jAw,or_false]at hm;rcases hm with rfl | rfl | rfl
  ·exact ihl he k1 k2
  ·exact ihs he k1 k2
  ·refine ihb (fun b hb0 h0=>?_) k1 k2;rcases jA8.1 hb0 with hb0 | hb0
   ·rcases jA8.1 hb0 with hb0 | hb0
    ·exact he b hb0 h0
    ·rw[jAg.1 hb0]; exact ki
   ·rw[jAg.1 hb0]; exact ki
structure Renamed (hs:List Hd)(k:Nat)(d:Dfn)(base:Int)(e:Exp)(f:Int→Id):Prop where
 body:d.body=zBU f e
 wt:WT hs k (zBk d) e d.res
 nd:(tmps e).Nodup
 num:e.num0
 len:(tmps e).length≤32768
 ids:∀(j:Nat) (h:j<(tmps e).length),f (tmps e)[j]=idR (base+j)
def nmV (l:List Int):Nat:=(1+atV l 0 2).toNat
theorem zOl (l:List Int)(hl:∀x∈l,w64 x=x):(nmV l:Int)=1+atV l 0 2∧(nmV l=1∨nmV l=2):=by obtain⟨a,b⟩:=yM (i:=0) hl (most:=2) (by omega);unfold nmV;omega
structure PrgOk (l:List Int)(P:Prg):Prop where
 mods:P.mods=zIl (nmV l) (qC l (nmV l))
 heads:P.defs.map Dfn.hd=hsV l (nmV l)
 bodies:∃base:Nat→Int,base 0=zA9 (nmV l) (qC l (nmV l)) (qC l (nmV l)).length∧∀(k:Nat) (d:Dfn),P.defs[k]?=some d →
  (zB3 d=false∧d.body=Exp.zero∧base (k+1)=base k)∨(zB3 d=true∧∃e f,Renamed (hsV l (nmV l)) k d (base k) e f∧base (k+1)=base k+(tmps e).length)
theorem qBv {hs:List Hd}{n:Nat}{ms:Nat→Mk}(hf:∀i<n,zRW hs i (ms i) (ms (i+1))):∀i≤n,(ms 0).temp≤(ms i).temp∧(∀j,i≤j→(ms i).defs[j]?=(ms 0).defs[j]?) ∧
 ∀j<i,∀d,(ms 0).defs[j]?=some d→(zB3 d=false∧(ms i).defs[j]?=some d)∨(zB3 d=true∧∃e lo,(ms i).defs[j]?=some (d.wb e)∧BGood hs j d lo (ms i).temp e∧(ms 0).temp≤lo)
 | 0,_=>⟨jC7 _,fun _ _=>rfl,fun j hj=>by omega⟩
 | i+1,hi=>by
  obtain⟨t,c1,c2⟩:=qBv hf i (by omega);obtain⟨d,hd,ht,hc⟩:=hf i (by omega);have hlt:=(jA4.1 hd).1;have hd0:=c1 i (jA _);rw[hd]at hd0;rcases hc with ⟨hk,he⟩ | ⟨⟨hk0,hk1⟩,e,he,hg⟩
  ·have hbd:zB3 d=false:=by rcases hk with h | h<;>simp[zB3,h]
   refine⟨by omega,fun j hj=>by rw[he]; exact c1 j (by omega),fun j hj d' hd'=>?_⟩;rw[he];by_cases e:j=i
   ·subst e;rw[←hd0]at hd';cases hd';exact .inl ⟨hbd,hd⟩
   ·rcases c2 j (by omega) d' hd' with h | ⟨h,e,lo,h1,h2,h3⟩
    ·exact .inl h
    ·exact .inr ⟨h,e,lo,h1,⟨h2.wt,h2.seg.mono (jC7 _) ht,h2.num,h2.len⟩,h3⟩
  ·have hbd:zB3 d=true:=by simp[zB3,hk0,hk1]
   refine⟨by omega,fun j hj=>by rw[he,jAf (by omega)]; exact c1 j (by omega),fun j hj d' hd'=>?_⟩;rw[he];by_cases e:j=i
   ·subst e;rw[←hd0]at hd';cases hd';exact .inr ⟨hbd,_,_,jAq hlt,hg,t⟩
   ·rw[jAf (Ne.symm e)];rcases c2 j (by omega) d' hd' with h | ⟨h,e,lo,h1,h2,h3⟩
    ·exact .inl h
    ·exact .inr ⟨h,e,lo,h1,⟨h2.wt,h2.seg.mono (jC7 _) ht,h2.num,h2.len⟩,h3⟩
theorem zZU (l:List Int)(hl:∀x∈l,w64 x=x):∃P:Prg,PrgOk l P∧Ret prog 9 [.sl l.length (yH l)] [] (.agg (zS P)) []:=by
 obtain⟨hnm,hnm2⟩:=zOl l hl;generalize hN:nmV l=nm at *
 have m1:1≤(nm:Int):=by omega
 have m2:(nm:Int)≤2:=by omega
 generalize hps:qC l nm=ps;have h8:=(zAE l nm).2;have h6:=zBs l nm m1 m2 hl;rw[hps]at h8 h6;have hnr:=zCw (mods:=nm) (ps:=ps) (by omega) (fun p hp=>(h6 p hp).t6) ps.length;generalize hM:zIl nm ps=M;obtain⟨m0,hm0⟩:∃m0:Mk,m0={mods:=M,defs:=zEf nm ps,l:=l,at_:=24,temp:=0,left:=0,own:=0,home:=Id.zero,name:=0}:=⟨_,rfl⟩;have hi0:BInv l nm 0 m0:=by rw[hm0];exact⟨by rw[hsV,hps]; rfl,by rw[hps,hM],rfl,by simp,by simp,by simp,by simp⟩
 obtain⟨ms,b0,b1,b2⟩:=zTq m1 m2 hl m0 hi0;rw[hps]at b1 b2;have hds0:(ms 0).defs=zEf nm ps:=by rw[b0,hm0]
 have ht0:(ms 0).temp=0:=by rw[b0,hm0]
 have hlen:∀i≤ps.length,(ms i).defs.length=ps.length:=fun i hi=>by
  have:=congrArg List.length (b1 i hi).heads
  simpa [hps] using this
 have hslots:∀i≤ps.length,∀d∈(ms i).defs,d.slots.length≤6:=fun i hi d hd=>by obtain⟨j,hj,rfl⟩:=jAh hd;have:=zHv m1 m2 hl (i:=j) (d:=(ms i).defs[j]) (by rw[←(b1 i hi).heads,jBd,jA2 hj]; rfl) 0;have h6:=this.2.2.1;rw[zFU]at h6;exact h6
 obtain⟨c0,_,c2⟩:=qBv (fun i hi=>(b2 i hi).2) ps.length (jA _);rw[ht0]at c0 c2;have htn:=(b1 ps.length (jA _)).temp1;obtain⟨N,hNn⟩:∃N:Nat,(ms ps.length).temp=N:=⟨(ms ps.length).temp.toNat,by omega⟩;have hhd:=(b1 ps.length (jA _)).heads;have hbody:∀(k:Nat) (d:Dfn),(ms ps.length).defs[k]?=some d→(zB3 d=false∧d.body=Exp.zero)∨(zB3 d=true∧WT (hsV l nm) k (zBk d) d.body d.res∧(tmps d.body).Nodup∧d.body.num0∧(tmps d.body).length≤32768∧∀c∈tmps d.body,0≤c∧c<N):=fun k d hd=>by
  have hk:=(jA4.1 hd).1;rw[hlen _ (jA _)]at hk;have hd0:(ms 0).defs[k]?=some (zOU nm (zA9 nm ps k) k ps[k]):=by rw[hds0,jA2 (by simpa using hk),zIK nm ps hk]
  rcases c2 k hk _ hd0 with ⟨h1,h2⟩ | ⟨h1,e,lo,h2,h3,h4⟩
  ·rw[h2]at hd;cases hd;exact .inl ⟨h1,rfl⟩
  ·rw[h2]at hd;cases hd;refine .inr ⟨h1,h3.wt,h3.seg.nd,h3.num,h3.len,fun c hc=>?_⟩;have:=h3.seg.rng c hc;omega
 have hunder:∀d∈(ms ps.length).defs,zB3 d=true→d.body.under N∧(∀c∈tmps d.body,0≤c∧c<N)∧(tmps d.body).length≤1000000:=fun d hd hbd=>by
  obtain⟨k,hk,rfl⟩:=jAh hd;have hg:(ms ps.length).defs[k]?=some (ms ps.length).defs[k]:=jA2 hk;rcases hbody k _ hg with ⟨h,_⟩ | ⟨_,h1,h2,h3,h4,h5⟩
  ·rw[hbd]at h; cases h
  ·refine⟨zXR h1 (fun b hb h0=>?_) h5 (by omega),h5,by omega⟩;have:=(zHv m1 m2 hl (i:=k) (d:=(ms ps.length).defs[k]) (by rw[←hhd,jBd,hg]; rfl) 0).1.new b hb h0;exfalso;have hn:=(zHv m1 m2 hl (i:=k) (d:=(ms ps.length).defs[k]) (by rw[←hhd,jBd,hg]; rfl) (b.id.c-0)).1.new b hb h0;omega
 obtain⟨s,hs⟩:∃s:NSt,s=⟨(ms ps.length).defs,zCY N,zA9 nm ps ps.length⟩:=⟨_,rfl⟩;have hsd:s.ds=(ms ps.length).defs:=by rw[hs]
 have hsi:s.ids.length=N:=by rw[hs]; simp[zCY]
 have hsn:s.next=zA9 nm ps ps.length:=by rw[hs]
 refine⟨⟨M,(zB7 s ps.length).ds⟩,⟨by rw[hN,hps,hM],?_,fun k=>(zB7 s k).next,?_,fun k d hd=>?_⟩,?_⟩
 ·rw[hN,zLt,hsd,hhd]
 ·rw[hN,hps]; exact hsn
 ·rw[hN];have hk:=(jA4.1 hd).1;have hl1:=(zGg s ps.length).1;rw[hsd,hlen _ (jA _)]at hl1;simp only at hk hd;rw[hl1]at hk;rw[zNt s ps.length hk]at hd;have hg:s.ds[k]?=some ((ms ps.length).defs[k]'(by rw[hlen _ (jA _)]; exact hk)):=by rw[hsd]; exact jA2 _
  have hst:=zJb s hg;have hcur:(zB7 s k).ds[k]?=s.ds[k]?:=zFn s k k (jA _);rw[hg]at hcur;have hil:=(zGg s k).2;rw[hsi]at hil;have hb:=hbody k _ (jA2 (by rw[hlen _ (jA _)]; exact hk));generalize (ms ps.length).defs[k]'(by rw[hlen _ (jA _)]; exact hk)=d' at *
  dsimp only
  rw[hst]at hd ⊢;rcases hb with ⟨h1,h2⟩ | ⟨h1,h2,h3,h4,h5,h6⟩
  ·rw[if_neg (by simp[h1])]at hd ⊢;rw[hcur]at hd;cases hd;exact .inl ⟨h1,h2,rfl⟩
  ·rw[if_pos h1]at hd ⊢;simp only at hd ⊢;rw[jAq (jA4.1 hcur).1]at hd;cases hd;refine .inr ⟨h1,d'.body,_,⟨rfl,h2,h3,h4,h5,fun j hj=>?_⟩,rfl⟩;exact zQp _ _ _ h3 (fun x hx=>by rw[hil]; exact h6 x hx) j hj
 ·have hp6:∀p∈ps,p.types.length≤6:=fun p hp=>(h6 p hp).t6
  have hD:=qKO (ms ps.length) M (zA9 nm ps ps.length) N hNn (by omega) (by omega) (by omega) (by rw[hlen _ (jA _)]; omega) hunder;rw[←hs,hlen _ (jA _)]at hD;have hC:=qKN l M ps.length (by omega) (zA9 nm ps ps.length) m0 (by rw[hm0]) ms b0 hlen hslots (fun i hi=>(b2 i hi).1) ⟨M,(zB7 s ps.length).ds⟩ (by rw[hlen _ (jA _)]; exact hD);have hm0d:m0.defs=zEf nm ps:=by rw[hm0]
  rw[hm0d]at hC;have hB:=qKM l hl nm hnm2 ps hps.symm ⟨M,(zB7 s ps.length).ds⟩ (by rw[hM]; exact hC);have ha:=zB2 l 0 2 (by omega);have wn:IntKind.i64.wrap (1+atV l 0 2)=nm:=by rw[←hnm]; exact IntWalk.i64_in _ (by omega)
  refine zI Tryz.func9 rfl qOu (rs:=[.cell 2 2 true]) (by kernel_rfl) ?_;unfold qHy;simp;refine zT ha (by simp) (by simp) ?_;simp[wn];refine qW (S:=Nat) (fun i=>[(0,.sl l.length (yH l)),(2,.ptr 0 0),(3,int nm),(4,.ptr 1 0),(5,int i)])
   (fun i=>[.box [.nil,.nil],.box [.row 2 i,.row 3 0],.row false 84 6 i (MC i),.row false 39 31 0 []]) (fun i=>i≤nm) (fun i=>nm-i) 0 (by simp)
   (((zAv (l:=1) (o:=0) rfl rfl 84 6).trans (zAv (l:=1) (o:=1) rfl rfl 39 31)).trans (zR [0,1,2,3] 0 (by decide) (by simp) (by simp[MC]) (by simp))) ?_
  intro i hi;by_cases h:i<nm
  ·have hi2:i=0∨i=1:=by omega
   have k0:=zF6 0;have k1:=zF6 i;rcases hi2 with rfl | rfl
   ·have k1':Ret prog 32 [int 0] [] (.agg (jF (idR 0))) []:=k0;simp[h,MC];refine zAw k1' (by simp) (by simp) ?_;simp[h,jF];refine⟨by simp[maxLen],?_⟩;exact zU 1 h (by omega) (zR [0,1,2,3] 0 (by decide) (by simp) (by simp[MC,m0C]) (by simp[show IntKind.i64.wrap 1=1 by decide]))
   ·have hn2:nm=2:=by omega
    subst hn2;have k1':Ret prog 32 [int 1] [] (.agg (jF (idR 1))) []:=zF6 1;simp[MC];refine zAw k1' (by simp) (by simp) ?_;simp[jF];refine zT k0 (by simp) (by simp) ?_;simp[jF];refine⟨by simp[maxLen],?_⟩;exact zU 2 (by omega) (by omega) (zR [0,1,2,3] 0 (by decide) (by simp) (by simp[MC,m0C,m1C,jF]) (by simp[show IntKind.i64.wrap 2=2 by decide]))
  ·have hie:i=nm:=by omega
   subst hie;simp;exact⟨_,_,zR [0,1,2,3] 0 (by decide) (by simp) (by rcases hnm2 with rfl | rfl<;>simp[MC,m0C,m1C,jF]) (by simp),hB⟩
end Go.Proofs.YthglhccibdlccaaGreatDoor

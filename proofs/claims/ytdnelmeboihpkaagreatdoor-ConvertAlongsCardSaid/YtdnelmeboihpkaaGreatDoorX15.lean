/- The maker's bodies exist. -/
import Derived.Test.YtdnelmeboihpkaaGreatDoorX14
set_option linter.unusedVariables false
set_option maxHeartbeats 8000000
set_option maxRecDepth 100000
set_option linter.unusedSimpArgs false
open Go.Proofs.Tryz (prog)
namespace Go.Proofs.YtdnelmeboihpkaaGreatDoor
open Go.Abs
theorem zSN{α:Type}(I:Nat->α->Prop)(S:Nat->α->α->Prop)(a0 : α)(h0:I 0 a0):∀n:Nat,(∀i<n,∀a,I i a->∃b,I (i+1) b/\S i a b)->∃f:Nat->α,f 0=a0/\(∀i≤n,I i (f i))/\∀i<n,S i (f i) (f (i+1))
 | 0,_=>⟨fun _=>a0,rfl,(fun i hi=>by
  obtain rfl:i=0:=by omega
  exact h0),fun i hi=>by omega⟩
 |n+1,h=>by
  obtain⟨f,f0,f1,f2⟩:=zSN I S a0 h0 n fun i hi=>h i (by omega)
  obtain⟨b,b1,b2⟩:=h n (by omega) (f n) (f1 n (jA _));refine⟨fun i=>if i<=n then f i else b,by simp[f0],fun i hi=>?_,fun i hi=>?_⟩
  .by_cases e:i<=n
   .simp only[e,if_true];exact f1 i e
   .obtain rfl:i=n+1:=by omega
    simp only[show ¬n+1<=n by omega,if_false];exact b1
  .by_cases e:i=n
   .subst e;simp only[jA,if_true,show ¬i+1<=i by omega,if_false];exact b2
   .simp only[show i<=n by omega,show i+1<=n by omega,if_true];exact f2 i (by omega)
def Dfn.wb(d:Dfn)(e:Exp):Dfn:={d with body:=e}
@[simp]theorem Dfn.hd_wb(d:Dfn)(e:Exp):(d.wb e).hd=d.hd:=rfl
def eO(d:Dfn):wJ:=d.slots.map fun s=>⟨s.id,0,s.typ⟩
@[simp]theorem zBf(d:Dfn):(eO d).length=d.slots.length:=by simp[eO]
@[simp]theorem qIZ(d:Dfn)(e:Exp):eO (d.wb e)=eO d:=rfl
def mkA(m:Mk)(i:Nat)(d:Dfn):Mk:={m with own:=i,home:=d.mod,left:=14,name:=0}
def mkD(m:Mk)(i:Nat)(d:Dfn):Mk:={m with defs:=m.defs.set i d}
def mkL(m:Mk):Mk:={m with left:=0}
theorem xE{ds:wQ}{i:Nat}{d:Dfn}(h:ds[i]?=some d)(e:Exp):(ds.set i (d.wb e)).map Dfn.hd=ds.map Dfn.hd:=by
 apply jCa;intro j;rw[jBs,jBs];by_cases hj:j=i
 .subst hj;rw[jAk (jA4.1 h).1,h];rfl
 .rw[jAa (Ne.symm hj)]
def zMV(i:Nat)(m m':Mk):Prop:=∃d,m.defs[i]?=some d /\
 ((d.kind=0\/d.kind=1)/\m'=m \/
  (d.kind≠0/\d.kind≠1)/\∃(e1:Exp) (m1:Mk),my bR [.ptr 0 0,.agg (zB d.res),.sl (eO d).length (qC (eO d)),int 4] (mkS (mkA m i d)) (.agg (zJ e1)) (mkS m1)/\m1.defs=m.defs/\m1.mods=m.mods/\(tmps e1).length<=1000000000 /\
   ((tmps e1).length<=30/\m'=mkD m1 i (d.wb e1) \/
    30<(tmps e1).length/\∃(e2:Exp) (m2:Mk),my bR [.ptr 0 0,.agg (zB d.res),.sl (eO d).length (qC (eO d)),int 0] (mkS (mkL (mkD m1 i (d.wb e1)))) (.agg (zJ e2)) (mkS m2)/\m2.defs=m.defs.set i (d.wb e1)/\m2.mods=m.mods /\
     m'=mkD m2 i (d.wb e2)))
structure BGood(hs:List Hd)(k:Nat)(d:Dfn)(lo hi:Int)(e:Exp):Prop where
 wt:WT hs k (eO d) e d.res
 seg:Seg lo hi (tmps e)
 num:e.num0
 len:(tmps e).length<=32768
def zMU(hs:wP)(i:Nat)(m m':Mk):Prop:=∃d,m.defs[i]?=some d/\m.temp<=m'.temp /\
 ((d.kind=0\/d.kind=1)/\m'.defs=m.defs\/(d.kind≠0/\d.kind≠1)/\∃e,m'.defs=m.defs.set i (d.wb e)/\BGood hs i d m.temp m'.temp e)
structure BInv(l:List Int)(mods:Int)(i:Nat)(m:Mk):Prop where
 heads:m.defs.map Dfn.hd=hsV l mods
 mods:m.mods=zDj mods (qI l mods)
 l:m.l=l
 at0:0<=m.at_
 at1:m.at_<=24+i*200000000
 temp0:0<=m.temp
 temp1:m.temp<=i*200000000
theorem zNR{a b:Int}{l:wB}(h:Seg a b l)(hab:a<=b):(l.length:Int)<=b-a:=by
 have hp:(l.map fun x=>(x-a).toNat).Nodup:=by rw[jDt,jCy];refine List.Pairwise.imp_of_mem (fun {x y} hx hy hne=>?_) (jDt.1 h.nd);have:=h.rng x hx;have:=h.rng y hy;intro e;exact hne (by omega)
 have hs:(l.map fun x=>(x-a).toNat)⊆List.range (b-a).toNat:=fun n hn=>by obtain⟨x,hx,rfl⟩:=jAg.1 hn;have:=h.rng x hx;rw[jC];omega
 have:=hp.length_le_of_subset hs;rw[jAb,List.length_range]at this;omega
section
variable{l:wB}{mods:Int}(hm:1<=mods)(hm2:mods<=2)(hl:∀x∈l,w64 x=x)
include hm hm2 hl
theorem zCi{i:Nat}{d:Dfn}(h:(hsV l mods)[i]?=some d.hd)(temp:Int):EnvOk (hsV l mods) 4 temp (eO d)/\1<=(eO d).length/\(eO d).length<=6/\TyOk (hsV l mods) 4 d.res:=by
 obtain⟨hi,he⟩:=jA4.1 h;have hi':i<(qI l mods).length:=by simpa using hi
 rw[nT mods (qI l mods) hi']at he;have hp:=eY l mods hm hm2 hl _ (jA0 hi');have ht:=zC6 l mods hm hm2 hl _ (jA0 hi');obtain⟨n1,n2⟩:=mF (show 0<=mods by omega) (fun p hp=>(eY l mods hm hm2 hl p hp).t6) i;have n8:=(b6 l mods).2;have eS:d.slots=dP (cF mods (qI l mods) i) (qI l mods)[i]:=by have:=congrArg Hd.slots he;exact this.symm
 have eR:d.res=(qI l mods)[i].out:=by have:=congrArg Hd.res he;exact this.symm
 generalize (qI l mods)[i]=p at *
 generalize cF mods (qI l mods) i=nx at *
 refine⟨⟨fun b hb=>?_,?_,fun b hb h0=>?_⟩,by simp only[zBf,eS,lR];exact hp.t1,by simp only[zBf,eS,lR];exact hp.t6,by rw[eR];exact ht.2⟩
 .simp only[eO,jAg]at hb;obtain⟨s,hs,rfl⟩:=hb;rw[eS]at hs;exact ht.1 _ (zAH hs)
 .simp only[eO,eS,dP,jCc];rw[jCy];refine List.Pairwise.imp_of_mem (fun {a b} ha hb hlt=>?_) List.pairwise_lt_range;rw[jC]at ha hb;have:=hp.t6;intro e;have:=sZ (by omega) (by omega) (by omega) (by omega) e.1;omega
 .exfalso;simp only[eO,jAg]at hb;obtain⟨s,hs,rfl⟩:=hb;rw[eS]at hs;simp only[dP,jAg,jC]at hs;obtain⟨k,hk,rfl⟩:=hs;have:=hp.t6;have:=zWS (k:=nx+k) (by omega) (by omega);simp only[zHh]at h0;omega
theorem zTE(i:Nat)(hi:i<(qI l mods).length)(m:Mk)(h:BInv l mods i m):∃m',BInv l mods (i+1) m'/\zMV i m m'/\zMU (hsV l mods) i m m':=by
 have hlen:m.defs.length=(qI l mods).length:=by have:=congrArg List.length h.heads;simpa using this
 have n8:=(b6 l mods).2;obtain⟨d,hd⟩:∃d,m.defs[i]?=some d:=⟨m.defs[i]'(by omega),by simp⟩;have hhd:(hsV l mods)[i]?=some d.hd:=by rw[<-h.heads,jBs,hd];rfl
 by_cases hk:d.kind=0\/d.kind=1
 .refine⟨m,⟨h.heads,h.mods,h.l,h.at0,by have:=h.at1;omega,h.temp0,by have:=h.temp1;omega⟩,⟨d,hd,.inl ⟨hk,rfl⟩⟩,⟨d,hd,jAd _,.inl ⟨hk,rfl⟩⟩⟩
 have hk':d.kind≠0/\d.kind≠1:=⟨fun e=>hk (.inl e),fun e=>hk (.inr e)⟩;have hmne:0<m.mods.length:=by rw[h.mods];simp[zDj]
 have h89:(8:Int) ^ (4+4+1)=134217728:=by decide
 have h85:(8:Int) ^ (0+4+1)=32768:=by decide
 obtain⟨k4,_⟩:=zEu (hsV l mods) 4 (by omega) (by omega) 4 (by omega);obtain⟨k0,_⟩:=zEu (hsV l mods) 4 (by omega) (by omega) 0 (by omega);rw[h89]at k4;rw[h85]at k0;obtain⟨at0,at1,tp0,tp1⟩:=(⟨h.at0,h.at1,h.temp0,h.temp1⟩:_/\_/\_/\_);have hi8:(i:Int)<=8:=by omega
 obtain⟨eo,e1,e6,et⟩:=zCi hm hm2 hl hhd (mkA m i d).temp;have cA:Cx (hsV l mods) 4 (mkA m i d):=cxV l mods hm hm2 hl _ h.heads hmne h.l (by simp only[mkA];omega);have lA:Lim (mkA m i d) 134217728:=⟨at0,by simp only[mkA];omega,tp0,by simp only[mkA];omega,by simp only[mkA];omega,by simp only[mkA];omega,by simp only[mkA];omega,by simp only[mkA];omega⟩;obtain⟨x1,m1,g1,g2,g3,g4,g5⟩:=k4 (mkA m i d) 4 d.res (eO d) cA lA et (jA _) eo e1 (by omega);have htA:(mkA m i d).temp=m.temp:=rfl;have sl1:=zNR g4 g2.temp1;rw[htA]at sl1 g4;have a1:m.at_<=m1.at_:=g2.at1;have a2:m1.at_<=m.at_+134217728:=g2.at2;have b1:m.temp<=m1.temp:=g2.temp1;have b2:m1.temp<=m.temp+134217728:=g2.temp2;have dd:m1.defs=m.defs:=g2.defs;have dm:m1.mods=m.mods:=g2.mods;have dl:m1.l=m.l:=g2.l;by_cases h30:(tmps x1).length<=30
 .refine⟨mkD m1 i (d.wb x1),⟨?_,dm.trans h.mods,dl.trans h.l,by simp only[mkD];omega,by simp only[mkD];omega,by simp only[mkD];omega,by simp only[mkD];omega⟩,⟨d,hd,.inr ⟨hk',x1,m1,g1,dd,dm,by omega,.inl ⟨h30,rfl⟩⟩⟩,⟨d,hd,b1,.inr ⟨hk',x1,?_,g3,g4,g5,by omega⟩⟩⟩
  .simp only[mkD,dd];rw[xE hd];exact h.heads
  .simp only[mkD,dd]
 .have cB:Cx (hsV l mods) 4 (mkL (mkD m1 i (d.wb x1))):=cxV l mods hm hm2 hl _ (by simp only[mkL,mkD,dd];rw[xE hd];exact h.heads) (by simp only[mkL,mkD,dm];exact hmne) (dl.trans h.l) (by
   have:m1.own=i:=g2.own;simp only[mkL,mkD];omega)
  have nm:m1.name<=134217728:=by have:m1.name<=0+134217728:=g2.name2;omega
  have nm0:0<=m1.name:=g2.name1;have lB:Lim (mkL (mkD m1 i (d.wb x1))) 32768:=⟨by simp only[mkL,mkD];omega,by simp only[mkL,mkD];omega,by simp only[mkL,mkD];omega,by simp only[mkL,mkD];omega,by simp only[mkL,mkD];omega,by simp only[mkL,mkD];omega,nm0,by simp only[mkL,mkD];omega⟩;obtain⟨x2,m2,f1,f2,f3,f4,f5⟩:=k0 (mkL (mkD m1 i (d.wb x1))) 4 d.res (eO d) cB lB et (jA _) (zCi hm hm2 hl hhd _).1 e1 (by omega);have sl2:=zNR f4 f2.temp1;have p1:m1.at_<=m2.at_:=f2.at1;have p2:m2.at_<=m1.at_+32768:=f2.at2;have q1:m1.temp<=m2.temp:=f2.temp1;have q2:m2.temp<=m1.temp+32768:=f2.temp2;have dd2:m2.defs=m.defs.set i (d.wb x1):=by have:=f2.defs;rw[this];simp only[mkL,mkD,dd]
  have dm2:m2.mods=m.mods:=by have:=f2.mods;rw[this];simp only[mkL,mkD,dm]
  have dl2:m2.l=m.l:=by have:=f2.l;rw[this];simp only[mkL,mkD,dl]
  have hset:(m.defs.set i (d.wb x1)).set i (d.wb x2)=m.defs.set i (d.wb x2):=by rw[List.set_set]
  have o1:m1.own=i:=g2.own;have hwt:WT (hsV l mods) i (eO d) x2 d.res:=by have:(mkL (mkD m1 i (d.wb x1))).own=i:=o1;rw[this]at f3;exact f3
  have ht1:(mkL (mkD m1 i (d.wb x1))).temp=m1.temp:=rfl;rw[ht1]at f4 sl2;refine⟨mkD m2 i (d.wb x2),⟨?_,dm2.trans h.mods,dl2.trans h.l,by simp only[mkD];omega,by simp only[mkD];omega,by simp only[mkD];omega,by simp only[mkD];omega⟩,⟨d,hd,.inr ⟨hk',x1,m1,g1,dd,dm,by omega,.inr ⟨by omega,x2,m2,f1,dd2,dm2,rfl⟩⟩⟩,
   ⟨d,hd,by simp only[mkD];omega,.inr ⟨hk',x2,?_,hwt,f4.mono b1 (jAd _),f5,by omega⟩⟩⟩
  .simp only[mkD,dd2,hset];rw[xE hd];exact h.heads
  .simp only[mkD,dd2,hset]
theorem zOo(m0:Mk)(h0:BInv l mods 0 m0):∃ms:Nat->Mk,ms 0=m0/\(∀i≤(qI l mods).length,BInv l mods i (ms i))/\∀i<(qI l mods).length,zMV i (ms i) (ms (i+1))/\zMU (hsV l mods) i (ms i) (ms (i+1)) :=
 zSN (BInv l mods) (fun i m m'=>zMV i m m'/\zMU (hsV l mods) i m m') m0 h0 _ fun i hi a ha=>by obtain⟨b,h1,h2⟩:=zTE hm hm2 hl i hi a ha;exact⟨b,h1,h2⟩
end
end Go.Proofs.YtdnelmeboihpkaaGreatDoor
namespace Go.Abs
theorem zYA{P:Program}{KD:Env->Prop}{env:Env} {U:St}{d:wC}{f:FuncId}{args args':wE} {U0:St}{r:A}(h:Ret P f args U0 r U0)(js:wA)(hd:js.Nodup)(ho:aB U j5 (qP js) js U0)(ha:dD js args' args)
 (hr:ren js U.length r=r)(hp:q9 U js (U0.map (cH js U.length)) = U)(hq:KD (env.put d r)):tP P U d KD f args' env:=by
 refine⟨r,cS h js hd ho ha ?_,hq⟩;rw[hr,hp];simp
end Go.Abs
namespace Go.Proofs.YtdnelmeboihpkaaGreatDoor
open Go.Abs
def mO:List Id->Int->List Int->wF
 |ids,_,[]=>ids
 |ids,next,c::cs=>mO (ids.set c.toNat (idR next)) (next+1) cs
theorem zHf(c:Int):∀(cs:wB) (ids:wF) (next:Int),mO ids next (cs++[c])=(mO ids next cs).set c.toNat (idR (next+cs.length))
 |[],ids,next=>by simp[mO]
 |x::cs,ids,next=>by simp only[jB6,mO];rw[zHf c cs,jA9,show next+1+(cs.length:Int)=next+((cs.length+1:Nat):Int) by omega]
theorem zPC{cs:wB}{k:Nat}(h:k<cs.length)(ids:wF)(next:Int):mO ids next (cs.take (k+1))=(mO ids next (cs.take k)).set cs[k].toNat (idR (next+k)):=by rw[jA8 h,zHf,jAs,jAv (by omega)]
@[simp]theorem zBE:∀(cs:wB) (ids:wF) (next:Int),(mO ids next cs).length=ids.length
 |[],_,_=>rfl
 |_::cs,ids,next=>by simp only[mO];rw[zBE cs,jBy]
theorem zFu{c:Nat}:∀(cs:wB) (ids:wF) (next:Int),(∀x∈cs,0<=x/\x≠c)->(mO ids next cs)[c]?=ids[c]?
 |[],_,_,_=>rfl
 |x::cs,ids,next,h=>by simp only[mO];obtain⟨h1,h2⟩:=h x (by simp);rw[zFu cs _ _ (fun y hy=>h y (by simp[hy])),jAa (by omega)]
theorem zK5:∀(cs:wB) (ids:wF) (next:Int),cs.Nodup->(∀x∈cs,0<=x/\x<ids.length)->∀(k:Nat) (h:k<cs.length),pP (mO ids next cs) cs[k]=idR (next+k)
 |[],_,_,_,_,k,h=>by simp at h
 |x::cs,ids,next,hn,hb,0,h=>by
  rw[jD4]at hn;obtain⟨h1,h2⟩:=hb x (by simp);obtain⟨n,rfl⟩:∃n:Nat,x=n:=⟨x.toNat,by omega⟩;have hne:∀y∈cs,0<=y/\y≠n:=fun y hy=>⟨(hb y (by simp[hy])).1,fun e=>hn.1 (e▸hy)⟩
  simp only[jCw,mO,pP,jCk,jB7];rw[zFu cs _ _ hne,jAk (by omega)];simp
 |x::cs,ids,next,hn,hb,k+1,h=>by rw[jD4]at hn;simp only[mO,jDc];have:=zK5 cs (ids.set x.toNat (idR next)) (next+1) hn.2 (fun y hy=>by rw[jBy];exact hb y (by simp[hy])) k (by simpa using h);rw[this,show next+1+(k:Int)=next+((k+1:Nat):Int) by omega]
def fA(d:Dfn):Bool:=!(decide (d.kind=0)||decide (d.kind=1))
structure NSt where
 ds:List Dfn
 ids:List Id
 next:Int
def zGN(s:NSt)(i:Nat):NSt:=match s.ds[i]? with
 |some d=>if fA d then ⟨s.ds.set i (d.wb (iN (pP (mO s.ids s.next (tmps d.body))) d.body)),mO s.ids s.next (tmps d.body),s.next+(tmps d.body).length⟩ else s
 |none=>s
def eJ(s:NSt):Nat->NSt
 | 0=>s
 |i+1=>zGN (eJ s i) i
theorem vH(s:NSt):∀i:Nat,(eJ s i).ds.length=s.ds.length/\(eJ s i).ids.length=s.ids.length
 | 0=>⟨rfl,rfl⟩
 |i+1=>by
  have ih:=vH s i;simp only[eJ,zGN];split
  .split
   .simp[ih]
   .exact ih
  .exact ih
theorem tB(s:NSt):∀(i j:Nat),i<=j->(eJ s i).ds[j]?=s.ds[j]?
 | 0,j,_=>rfl
 |i+1,j,h=>by
  have ih:=tB s i j (by omega);simp only[eJ,zGN];split
  .split
   .simp only;rw[jAa (by omega),ih]
   .exact ih
  .exact ih
theorem zCz(s:NSt){i:Nat}{d:Dfn}(hd:s.ds[i]?=some d):eJ s (i+1)=if fA d then ⟨(eJ s i).ds.set i (d.wb (iN (pP (mO (eJ s i).ids (eJ s i).next (tmps d.body))) d.body)),mO (eJ s i).ids (eJ s i).next (tmps d.body),(eJ s i).next+(tmps d.body).length⟩ else eJ s i:=by simp only[eJ,zGN];rw[tB s i i (jA _),hd]
theorem zEK(s:NSt):∀i:Nat,(eJ s i).ds.map Dfn.hd=s.ds.map Dfn.hd
 | 0=>rfl
 |i+1=>by
  have ih:=zEK s i;simp only[eJ,zGN];split
  .rename_i d hd;split
   .simp only;rw[xE hd,ih]
   .exact ih
  .exact ih
theorem zGM(s:NSt){i:Nat}:∀(j:Nat),i<j->(eJ s j).ds[i]?=(eJ s (i+1)).ds[i]?
 | 0,h=>by omega
 |j+1,h=>by
  by_cases e:i=j
  .rw[e]
  .have ih:=zGM s (i:=i) j (by omega);rw[<-ih];simp only[eJ,zGN];split
   .split
    .simp only;rw[jAa (by omega)]
    .rfl
   .rfl
theorem zCa{ds:wQ}{i:Nat}(h:i<ds.length)(e:Exp):(z6 ds).take (i*31+14)++(zJ e++(z6 ds).drop (i*31+14+15))=z6 (ds.set i (ds[i].wb e)):=by
 have hs:=zLs (ds[i].wb e) h;rw[<-hs];have hd:=yD h;have h1:(z6 ds).take (i*31+14)=(z6 ds).take (i*31)++(zK ds[i]).take 14:=by rw[List.take_add,hd,jC6 (by simp)]
 have h2:(z6 ds).drop (i*31+14+15)=(zK ds[i]).drop 29++(z6 ds).drop (i*31+31):=by
  have h3:(z6 ds).drop (i*31+31)=z6 (ds.drop (i+1)):=by rw[<-jBc,hd,jD5 (zJg _)]
  rw[h3,jBk,<-jBc,hd,List.drop_append_of_le_length (by simp)]
 rw[h1,h2,jAq]
 congr 1
end Go.Proofs.YtdnelmeboihpkaaGreatDoor
namespace Go.Proofs.YtdnelmeboihpkaaGreatDoor
open Go.Abs
def zVR:K:=(G [D 137 4 1,L 138 137 1,J 139 10 31,kd 140 41 31 1 kz0 [(0,31,(kt 139))],kP 141 41 31 352 138 140,D 142 4 1,S 142 141 1] (K.dops [(0,1,D 143 4 0),(1,1,L 144 143 1),(2,0,M 145 7),(3,0,M 146 9),(4,1,kX 147 145 146 11),(5,1,D 148 147 10),(6,1,L 149 148 1),(7,0,D 150 4 0),(8,0,L 151 150 1),(9,0,M 152 7),(10,0,M 153 9),(11,0,kX 154 152 153 11),(12,0,D 155 154 10),(13,0,L 156 155 1),(14,0,kX 157 151 156 6),(15,0,D 158 157 5),(16,0,L 159 158 1),(17,0,D 160 10 0),(18,0,J 161 160 3),(19,0,kd 162 31 3 1 [ki,ki,ki] [(0,3,(kt 161))]),(20,0,kP 163 31 3 24 159 162),(21,0,kX 164 144 149 6),(22,0,D 165 164 5),(23,0,S 165 163 1)]))
def zVQ:K:=(G [M 213 13,M 214 14,kU 215 213,D 216 215 6,S 216 214 1] (G [M 217 13,D 218 15 4,J 219 218 3,kU 220 217,D 221 220 7,S 221 219 3] (G [M 222 13,kU 223 222,D 224 223 5,⟨none,.st none (kt 224) (kc 14) 1⟩] (G [M 225 13,kU 226 225,D 227 226 10,⟨none,.st none (kt 227) (kc 0) 1⟩] (Z (K.dops [(0,2,D 228 4 1),(1,4002,L 229 228 1),(2,0,M 230 14),(3,0,M 231 13),(4,0,D 232 15 9),(5,0,J 233 232 5),(6,0,M 234 16),(7,3002,kC 235 85 [(kt 231),(kt 233),(kt 234),(kc 4)]),(8,4002,kX 236 229 230 31),(9,4002,D 237 236 14),(10,0,S 237 235 15)]) (G [D 238 4 1,L 239 238 1,M 240 14,kX 241 239 240 31,D 242 241 14,J 243 242 15,kC 244 86 [(kt 243)],kBi 245 244 30 .gtr] (Y 245 (G [M 246 13,kU 247 246,D 248 247 5,⟨none,.st none (kt 248) (kc 0) 1⟩] (K.dops [(0,2,D 249 4 1),(1,4002,L 250 249 1),(2,0,M 251 14),(3,0,M 252 13),(4,0,D 253 15 9),(5,0,J 254 253 5),(6,0,M 255 16),(7,3002,kC 256 85 [(kt 252),(kt 254),(kt 255),(kc 0)]),(8,4002,kX 257 250 251 31),(9,4002,D 258 257 14),(10,0,S 258 256 15)])) ks)))))))
def zNa:K:=(G [M 259 13,kU 260 259,D 261 260 4,L 262 261 1,⟨none,.mop (some 263) (.mks 31 3 24 [ki,ki,ki]) [(kt 262),(kt 262)]⟩,M 18 263] (Z (G [kMi 19 0] (K.block 10 (K.loop (Z (G [M 264 19,D 265 4 1,L 266 265 1,kN 267 266,kB 268 264 267 .lss] (Y 268 ks (K.exit 10))) (Z (K.block 11 (Z (G [D 271 4 1,L 272 271 1,M 273 19,kX 274 272 273 31,D 275 274 3,L 276 275 1,kQi 277 276 0 false,M 278 277,T 278 false (D 279 4 1),T 278 false (L 280 279 1),T 278 false (M 281 19),T 278 false (kX 282 280 281 31),T 278 false (D 283 282 3),T 278 false (L 284 283 1),T 278 false (kQi 285 284 1 false),kPt 286 278 285] (Y 286 (K.exit 11) ks)) (G [D 287 4 1,L 288 287 1,M 289 19,kX 290 288 289 31,D 291 290 14,J 292 291 15,kC 293 87 [(kt 292),(.const kl)],M 20 293] (Z (G [kMi 21 0] (K.block 12 (K.loop (Z (G [M 294 21,M 295 20,kN 296 295,kB 297 294 296 .lss] (Y 297 ks (K.exit 12))) (Z (K.block 13 (Z (K.dops [(0,0,M 300 18),(1,0,M 301 20),(2,0,M 302 21),(3,0,kX 303 301 302 1),(4,0,L 304 303 1),(5,0,M 305 8),(6,0,kC 306 83 [(kt 305)]),(7,0,kX 307 300 304 3),(8,0,S 307 306 3)]) (K.ops [M 308 8,kBi 309 308 1 .add,M 8 309]))) (K.ops [M 298 21,kBi 299 298 1 .add,M 21 299])))))) (K.dops [(0,0,D 310 4 1),(1,0,L 311 310 1),(2,0,M 312 19),(3,0,D 313 4 1),(4,0,L 314 313 1),(5,0,M 315 19),(6,0,kX 316 314 315 31),(7,0,D 317 316 14),(8,0,J 318 317 15),(9,0,M 319 18),(10,0,kC 320 88 [(kt 318),(kt 319)]),(11,0,kX 321 311 312 31),(12,0,D 322 321 14),(13,0,S 322 320 15)]))))) (K.ops [M 269 19,kBi 270 269 1 .add,
 M 19 270])))))) (G [J 323 4 2,S 2 323 2] kr)))
def zMZ:K:=(G [J 166 4 2,M 167 0,kb 168 [kl,kl,kl,ki,ki,ki,ki,ki,ki,ki,ki] [(0,2,(kt 166)),(2,1,(kt 167)),(3,1,(kc 24))],kO 169 168,M 13 169] (Z (G [kMi 14 0] (K.block 6 (K.loop (Z (G [M 170 14,D 171 4 1,L 172 171 1,kN 173 172,kB 174 170 173 .lss] (Y 174 ks (K.exit 6))) (Z (K.block 7 (G [D 177 4 1,L 178 177 1,M 179 14,kX 180 178 179 31,J 181 180 31,kZ 15 kz0,S 15 181 31] (Z (G [D 182 15 3,L 183 182 1,kQi 184 183 0 false,M 185 184,T 185 false (D 186 15 3),T 185 false (L 187 186 1),T 185 false (kQi 188 187 1 false),kPt 189 185 188] (Y 189 (K.exit 7) ks)) (G [kMn 16] (Z (G [kMi 17 0] (K.block 8 (K.loop (Z (G [M 190 17,D 191 15 8,L 192 191 1,kN 193 192,kB 194 190 193 .lss] (Y 194 ks (K.exit 8))) (Z (K.block 9 (K.dops [(0,0,M 197 16),(1,0,D 198 15 8),(2,0,L 199 198 1),(3,0,M 200 17),(4,0,kX 201 199 200 11),(5,0,D 202 201 0),(6,0,J 203 202 3),(7,0,D 204 15 8),(8,0,L 205 204 1),(9,0,M 206 17),(10,0,kX 207 205 206 11),(11,0,D 208 207 4),(12,0,J 209 208 5),(13,0,kb 210 kz7 [(0,3,(kt 203)),(4,5,(kt 209))]),(14,0,kd 211 139 9 1 kz7 [(0,9,(kt 210))]),(15,0,kP 212 139 9 88 197 211),(16,0,M 16 212)])) (K.ops [M 195 17,kBi 196 195 1 .add,M 17 196])))))) (K.wk zVQ)))))) (K.ops [M 175 14,kBi 176 175 1 .add,M 14 176])))))) (K.wk zNa)))
def zQu:K:=(G [M 48 0,M 49 3,kC 50 84 [(kt 48),(kt 49)],M 7 50] (G [M 51 3,M 52 7,kN 53 52,kB 54 51 53 .add,M 8 54] (Z (G [kMi 9 0] (K.block 2 (K.loop (Z (G [M 55 9,M 56 7,kN 57 56,kB 58 55 57 .lss] (Y 58 ks (K.exit 2))) (Z (K.block 3 (Z (K.dops [(0,0,M 61 3),(1,0,M 62 9),(2,0,kB 63 61 62 .add),(3,1,kC 64 83 [(kt 63)]),(4,0,M 65 7),(5,0,M 66 9),(6,1,kX 67 65 66 11),(7,1,D 68 67 0),(8,1,L 69 68 1),(9,0,M 70 7),(10,0,M 71 9),(11,1,kX 72 70 71 11),(12,1,D 73 72 10),(13,1,L 74 73 1),(14,1,kC 75 83 [(kt 74)]),(15,0,M 76 7),(16,0,M 77 9),(17,1,kX 78 76 77 11),(18,1,D 79 78 1),(19,1,L 80 79 1),(20,0,M 81 7),(21,0,M 82 9),(22,1,kX 83 81 82 11),(23,1,D 84 83 5),(24,1,J 85 84 5),(25,0,kb 86 kz0 [(0,3,(kt 64)),(3,1,(kt 69)),(4,3,(kt 75)),(7,1,(kt 80)),(9,5,(kt 85))]),(26,0,kZ 10 kz0),(27,0,S 10 86 31)]) (Z (G [kMi 11 0] (K.block 4 (K.loop (Z (G [M 87 11,M 88 7,M 89 9,kX 90 88 89 11,D 91 90 2,L 92 91 1,kN 93 92,kB 94 87 93 .lss] (Y 94 ks (K.exit 4))) (Z (K.block 5 (Z (K.dops [(0,0,M 97 8),(1,1,kC 98 83 [(kt 97)]),(2,0,M 99 7),(3,0,M 100 9),(4,1,kX 101 99 100 11),(5,1,D 102 101 3),(6,1,L 103 102 1),(7,0,M 104 11),(8,1,kX 105 103 104 1),(9,1,L 106 105 1),(10,0,M 107 7),(11,0,M 108 9),(12,1,kX 109 107 108 11),(13,1,D 110 109 2),(14,1,L 111 110 1),(15,0,M 112 11),(16,1,kX 113 111 112 5),(17,1,J 114 113 5),(18,0,M 115 11),(19,0,kb 116 kz5 [(0,3,(kt 98)),(3,1,(kt 106)),(4,5,(kt 114)),(10,1,(kt 115))]),(20,0,kZ 12 kz5),(21,0,S 12 116 11)]) (Z (G [D 117 10 3,
 L 118 117 1,kQi 119 118 4 false] (Y 119 (K.ops [M 120 7,M 121 9,kX 122 120 121 11,D 123 122 4,L 124 123 1,M 125 11,kX 126 124 125 1,L 127 126 1,D 128 12 9,S 128 127 1]) ks)) (G [D 129 10 8,L 130 129 1,J 131 12 11,kd 132 85 11 1 kz5 [(0,11,(kt 131))],kP 133 85 11 112 130 132,D 134 10 8,S 134 133 1] (K.ops [M 135 8,kBi 136 135 1 .add,M 8 136]))))) (K.ops [M 95 11,kBi 96 95 1 .add,M 11 96])))))) (K.wk zVR)))) (K.ops [M 59 9,kBi 60 59 1 .add,M 9 60])))))) (K.wk zMZ))))
def qCX:K:=G [kZ 2 [kl,kl]] (G [M 22 0,kC 23 38 [(kt 22),(kc 0),(kc 2)],⟨none,.bin (some 24) .add (kc 1) (kt 23)⟩,M 3 24] (G [kZ 4 [kl,kl]] (Z (G [kMi 5 0] (K.block 0 (K.loop (Z (G [M 25 5,M 26 3,kB 27 25 26 .lss] (Y 27 ks (K.exit 0))) (Z (K.block 1 (Z (K.dops [(0,0,M 30 5),(1,1,kC 31 83 [(kt 30)]),(2,0,⟨none,.bslice (some 32) 9 1 2 [(.string ⟨#[]⟩),(.string ⟨#[]⟩)] [(0,1,(.const (.string ⟨#[99,111,114,101]⟩))),(1,1,(.const (.string ⟨#[109,105,108,108]⟩)))]⟩),(3,0,M 33 5),(4,1,kX 34 32 33 1),(5,1,L 35 34 1),(6,0,kb 36 kz9 [(0,3,(kt 31)),(3,1,(kt 35))]),(7,0,kZ 6 kz9),(8,0,S 6 36 6)]) (Z (G [M 37 5,kQi 38 37 1 false] (Y 38 (K.ops [kC 39 83 [(kc 0)],kd 40 31 3 1 [ki,ki,ki] [(0,3,(kt 39))],D 41 6 4,S 41 40 1]) ks)) (K.ops [D 42 4 0,L 43 42 1,J 44 6 6,kd 45 112 6 1 kz9 [(0,6,(kt 44))],kP 46 112 6 88 43 45,D 47 4 0,S 47 46 1])))) (K.ops [M 28 5,kBi 29 28 1 .add,M 5 29])))))) (K.wk zQu))))
def qMM:Nat->Option wD:=fun|41=>k_ [2,4002,0,0,0,0,0,3002,4002,4002,0] | 44=>k_ [2,4002,0,0,0,0,0,3002,4002,4002,0] | 56=>k_ [0,0,0,0,0,0,0,0,0,0,0,0,0,0]|_=>none
theorem qKQ:kx Tryz.f37 qMM qCX:=mz (by kernel_rfl)
abbrev zL9(p:Prg):=fin [RS.cell 2 2 true] (rY 0 (.agg (zN p)) [])
theorem qGZ(m:Mk)(M:List Md)(next:Int)(N:Nat)(hN:m.temp=N)(hN1:N<=10000000000)(h0:0<=next)(h1:next<=1000000)(hd8:m.defs.length<=100)
 (hb:∀d∈m.defs,fA d=true->d.body.under N/\(∀c∈tmps d.body,0<=c/\c<N)/\(tmps d.body).length<=1000000) :
 wpK prog 0 zNa (zL9 ⟨M,(eJ ⟨m.defs,vX N,next⟩ m.defs.length).ds⟩) (qS [(2,.ptr 2 0),(4,.ptr 3 0),(8,int next),(13,.ptr 0 0)])
  (mkS m++[.box [.nil,.nil],.box [.sl M.length (qG M),.row 1 m.defs.length]]):=by
 generalize hs:(⟨m.defs,vX N,next⟩:NSt)=s;have hsd:s.ds=m.defs:=by rw[<-hs]
 have hsi:s.ids.length=N:=by rw[<-hs];simp[vX]
 have hsn:s.next=next:=by rw[<-hs]
 have hz:=zAZ N;have hz2:s.ids=vX N:=by rw[<-hs]
 have hnx:∀i≤m.defs.length,0<=(eJ s i).next/\(eJ s i).next<=1000000+1000000*i:=by
  intro i;induction i with
  |zero=>intro _;simp only[eJ,hsn];omega
  |succ i ih =>
   intro hi;have ih:=ih (by omega);have hd:s.ds[i]?=some (m.defs[i]'(by omega)):=by rw[hsd,jA1 (by omega)]
   rw[zCz s hd];split
   .rename_i hbd;have:=(hb _ (jA0 (by omega)) hbd).2.2;simp only;omega
   .omega
 have h24:24*N<=281474976710656:=by omega
 unfold zNa;simp[mkS,mkB,hN,h24];refine⟨by omega,?_⟩;refine qO (S:=Nat) (fun i=>[(2,.ptr 0 0),(4,.ptr 1 0),(8,int (eJ s i).next),(18,.row 3 N),(19,int i)])
  (fun i=>[.box [.nil,.nil],.box [.sl M.length (qG M),.row 2 m.defs.length],.row false 41 31 m.defs.length (z6 (eJ s i).ds),.row false 31 3 N (zV (eJ s i).ids)]) (fun i=>i<=m.defs.length) (fun i=>m.defs.length-i) 0 (by simp)
  (kf [2,3,1,4] 0 (by rfl) (by simp[eJ,hsd,hz2,<-hz]) (by simp[eJ,hsn])) ?_
 intro i hi;by_cases h:i<m.defs.length
 .have hd:s.ds[i]?=some m.defs[i]:=by rw[hsd,jA1 (by omega)]
  have hst:=zCz s hd;have hcur:(eJ s i).ds[i]?=some m.defs[i]:=by rw[tB s i i (jA _)];exact hd
  obtain⟨hlt,hce⟩:=jA4.1 hcur;obtain⟨hl1,hl2⟩:=vH s i;have hbd:=hb _ (jA0 h);obtain⟨nx0,nx1⟩:=hnx i hi;have hw:=zCa hlt (iN (pP (mO (eJ s i).ids (eJ s i).next (tmps m.defs[i].body))) m.defs[i].body);have hdr:=yD hlt;rw[hce]at hw hdr;have hi8:(i:Int)<=100:=by omega
  have wi:=jY i (by omega);rw[hsd]at hl1;rw[hsi]at hl2;generalize hse:eJ s (i+1)=s' at hst;generalize hte:eJ s i=t at *
  generalize m.defs[i]=d at *
  have hb3:i*31+3+1<=m.defs.length*31:=by omega
  have hb14:i*31+14+15<=m.defs.length*31:=by omega
  have hdr3:List.drop (i*31+3) (z6 t.ds)=(zK d++z6 (t.ds.drop (i+1))).drop 3:=by rw[<-jBc,hdr]
  have hdr14:List.drop (i*31+14) (z6 t.ds)=(zK d++z6 (t.ds.drop (i+1))).drop 14:=by rw[<-jBc,hdr]
  have henc:zK d=(zK d).take 14++zJ d.body++[.lit (.int .i64 d.place),.sl d.lay.length (yT d.lay)]:=rfl;by_cases hk0:d.kind=0
  .have hbf:fA d=false:=by simp[fA,hk0]
   rw[hbf]at hst;simp only[jAl,if_false]at hst;subst hst;simp[h,hdr3,hb3,hl1,zK,hk0];exact zS (i+1) h (by omega) (mw [0,1,2,3] 0 (by rfl) (by simp[hse,wi]))
  .by_cases hk1:d.kind=1
   .have hbf:fA d=false:=by simp[fA,hk1]
    rw[hbf]at hst;simp only[jAl,if_false]at hst;subst hst;simp[h,hdr3,hb3,hl1,zK,hk1];exact zS (i+1) h (by omega) (mw [0,1,2,3] 0 (by rfl) (by simp[hse,wi]))
   .have hbf:fA d=true:=by simp[fA,hk0,hk1]
    rw[hbf]at hst;simp only[if_true]at hst;obtain⟨bu,bc,bl⟩:=hbd hbf;have hnum:=zMn d.body (by omega);simp[h,hdr3,hb3,hl1,zK,hk0,hk1,hdr14,hb14];refine mr hnum [] (by simp[zJ]) ?_;generalize hO:tmps d.body=O at *
    simp[lQ];refine qO (S:=Nat) (fun k=>[(2,.ptr 0 0),(4,.ptr 1 0),(8,int (t.next+k)),(18,.row 3 N),(19,int i),(20,.row 4 O.length),(21,int k)])
     (fun k=>[.box [.nil,.nil],.box [.sl M.length (qG M),.row 2 m.defs.length],.row false 41 31 m.defs.length (z6 t.ds),.row false 31 3 N (zV (mO t.ids t.next (O.take k))),lQ O]) (fun k=>k<=O.length) (fun k=>O.length-k) 0 (by simp)
     (mw [0,1,2,3,4] 0 (by rfl) (by simp[lQ,mO])) ?_
    intro k hk;by_cases hkl:k<O.length
    .obtain⟨hc0,hc1⟩:=bc O[k] (jA0 hkl);obtain⟨c,hc⟩:∃c:Nat,O[k]=c:=⟨O[k].toNat,by omega⟩;have hod:=iG hkl;rw[hc]at hod hc1;have hcN:c<N:=by omega
     have hst2:=zPC hkl t.ids t.next;rw[hc]at hst2;have hsl:(mO t.ids t.next (O.take k)).length=N:=by rw[zBE];exact hl2
     have hset:=zEa (R:=mO t.ids t.next (O.take k)) (k:=c) (idR (t.next+k)) (by omega);have wk1:=jY k (by omega);have wk2:=z8 (t.next+(k:Int)+1) (by omega);have hb3c:c*3+3<=N*3:=by omega
     have hkl':k+1<=O.length:=hkl;simp[lQ,hkl,hkl',hod];refine qA (tU (t.next+k)) (by simp) (by simp) ?_;simp[zL,hcN,hsl,hb3c];exact zS (k+1) hkl (by omega) (kf [0,1,2,3,4] 0 (by rfl) (by simp[lQ,hst2,<-hset,zL]) (by simp[wk1,wk2];omega))
    .have hke:k=O.length:=by omega
     subst hke;have hren:=zFi (mO t.ids t.next O) d.body (by rw[zBE,hl2];exact bu);have hsl:(mO t.ids t.next O).length=N:=by rw[zBE];exact hl2
     unfold bG at hren;rw[hsl]at hren;rw[jAu];simp[lQ,h,hl1,hdr14,hb14,zK];refine zYA hren [3] (by simp) (by simp) (by simp[zJ]) (by simp) (by simp) ?_;simp[h,hl1,hb14];exact zS (i+1) h (by omega) (kf [0,1,2,3] 0 (by rfl) (by simp[hse,hst,<-hw]) (by simp[wi,hse,hst]))
 .have hie:i=m.defs.length:=by omega
  subst hie;obtain⟨hl1,hl2⟩:=vH s m.defs.length;rw[hsd]at hl1;simp;exact zA 1 (by simp[zN,hl1])
end Go.Proofs.YtdnelmeboihpkaaGreatDoor
namespace Go.Abs
section
variable{d:wC}{x i:Operand}{n f:Nat}{g:Bool}{env:Env}{l:List Operand}
@[simp]theorem qBR(h1:4000<=f):cQ f (.ld d x n g) env=fH (f-4000) (ev env x):=propext (zKF h1)
@[simp]theorem qAb(h1:4000<=f):cQ f (.idx d x i n) env=isRow (ev env x):=propext (zHl h1)
@[simp]theorem qBQ{o:Nat}(h1:6<f):cQ f (.addr d x o) env=True:=by
 unfold cQ;split
 .omega
 .omega
 .split
  .rfl
  .split
   .rfl
   .split<;>rfl
@[simp]theorem qAa(h1:6<f):cQ f (.call d x l) env=True:=by
 unfold cQ;split
 .omega
 .omega
 .split
  .rfl
  .split
   .rfl
   .split<;>rfl
@[simp]theorem qJB{U:St}(h1:2<f):oD f U = U:=by unfold oD;rw[if_neg (by omega),if_neg (by omega)]
end
theorem zXv{a a' x x' y y' z z':wE}{fz fz':Bool}{e:TypeId}{s n:Nat}{cs cs':wE}:zFJ [.box a,.row fz e s n cs,.box x,.box y,.box z] [.box a',.row fz' e s n cs',.box x',.box y',.box z']:=by
 intro l f e2 s2 n2 c2 h
 match l,h with
 | 0,h=>simp at h
 | 1,h =>
  simp at h;obtain⟨rfl,rfl,rfl,rfl,rfl⟩:=h;exact⟨fz',cs',rfl⟩
 | 2,h=>simp at h
 | 3,h=>simp at h
 | 4,h=>simp at h
 |n+5,h=>simp at h
end Go.Abs
namespace Go.Proofs.YtdnelmeboihpkaaGreatDoor
open Go.Abs
theorem zRq{d:Dfn}{j:Nat}(h:j<d.slots.length):(eO d)[j]'(by simpa using h)=⟨d.slots[j].id,0,d.slots[j].typ⟩:=by simp[eO]
theorem qGY(l:wB)(M:List Md)(n:Nat)(hn:n<=100)(next:Int)(m0:Mk)(hm0:m0={mods:=M,defs:=m0.defs,l:=l,at_:=24,temp:=0,left:=0,own:=0,home:=Id.zero,name:=0})(ms:Nat->Mk)(h0:ms 0=m0)
 (hlen:∀i≤n,(ms i).defs.length=n)(hsl:∀i≤n,∀d∈(ms i).defs,d.slots.length<=6)(hst:∀i<n,zMV i (ms i) (ms (i+1)))(p:Prg)
 (hD:wpK prog 0 zNa (zL9 p) (qS [(2,.ptr 2 0),(4,.ptr 3 0),(8,int next),(13,.ptr 0 0)]) (mkS (ms n)++[.box [.nil,.nil],.box [.sl M.length (qG M),.row 1 (ms n).defs.length]])) :
 wpK prog 0 zMZ (zL9 p) (qS [(0,.sl l.length (yC l)),(2,.ptr 0 0),(4,.ptr 1 0),(8,int next)])
  [.box [.nil,.nil],.box [.sl M.length (qG M),.row 2 n],.row false 41 31 n (z6 m0.defs)]:=by
 have hl0:=hlen 0 (by omega);rw[h0]at hl0;have e0:mkS m0=[.box [.sl M.length (qG M),.row 1 n,.sl l.length (yC l),int 24,int 0,int 0,int 0,int 0,int 0,int 0,int 0],.row false 41 31 n (z6 m0.defs)]:=by rw[hm0];simp[mkS,mkB,Id.zero,hl0]
 unfold zMZ;simp;refine qO (S:=Nat) (fun i=>[(2,.ptr 2 0),(4,.ptr 3 0),(8,int next),(13,.ptr 0 0),(14,int i)])
  (fun i=>mkS (ms i)++[.box [.nil,.nil],.box [.sl M.length (qG M),.row 1 n]]) (fun i=>i<=n) (fun i=>n-i) 0 (by simp)
  (mw [3,2,0,1] 0 (by rfl) (by simp[h0,e0])) ?_
 intro i hi;by_cases h:i<n
 .obtain⟨d,hd,hcase⟩:=hst i h;obtain⟨hlt,hce⟩:=jA4.1 hd;have hli:=hlen i hi;have hd6:=hsl i hi d (hce▸jA0 hlt);generalize hms':ms (i+1)=m' at hcase;generalize hms:ms i=m at *
  have hdr:=yD hlt;have hi8:(i:Int)<=100:=by omega
  have wi:=jY i (by omega);rw[hce]at hdr;have hb31:i*31+31<=n*31:=by omega
  rcases hcase with ⟨hk,hm'⟩|⟨⟨hk0,hk1⟩,e1,m1,g1,gd,gm,gl,hcase⟩
  .subst hm';rcases hk with hk|hk
   all_goals
    simp[mkS,mkB,h,hdr,hb31,hli,zK,hk];exact zS (i+1) h (by omega) (mw [0,1,2,3] 0 (by rfl) (by simp[mkS,mkB,hms',hli,wi]))
  .simp[mkS,mkB,h,hdr,hb31,hli,zK,hk0,hk1];refine qO (S:=Nat) (fun j=>[(2,.ptr 2 0),(4,.ptr 3 0),(8,int next),(13,.ptr 0 0),(14,int i),(15,.ptr 4 0),(16,.row 5 j),(17,int j)])
    (fun j=>mkS m++[.box [.nil,.nil],.box [.sl M.length (qG M),.row 1 n],.box (zK d),.row false 139 9 j (qC ((eO d).take j))]) (fun j=>j<=d.slots.length) (fun j=>d.slots.length-j) 0 (by simp)
    ((yK (t:=16) (by simp) 139 9).trans (mw [0,1,2,3,4,5] 0 (by rfl) (by simp[mkS,mkB,zK,hli]))) ?_
   intro j hj;by_cases hjl:j<d.slots.length
   .have hdS0:List.drop (j*11) (jN d.slots)=j4 d.slots[j]++jN (d.slots.drop (j+1)):=qW hjl;have hdS:List.drop (j*11+4) (jN d.slots)=(j4 d.slots[j]++jN (d.slots.drop (j+1))).drop 4:=by rw[<-jBc,hdS0]
    have hbS:j*11+4+5<=d.slots.length*11:=by omega
    have hbS3:j*11+3<=d.slots.length*11:=by omega
    have hst2:=zBY (l:=eO d) (i:=j) (by simpa using hjl);rw[zRq hjl]at hst2;have wj:=jY j (by omega);simp[mkS,mkB,zK,hjl,hdS0,hdS,hbS,hbS3,j4];intro _;refine⟨⟨by simp[maxLen];omega,by omega⟩,?_⟩;exact zS (j+1) hjl (by omega) (mw [0,1,2,3,4,5] 0 (by rfl) (by simp[mkS,mkB,zK,hst2,cO,wj]))
   .have hje:j=d.slots.length:=by omega
    subst hje;have hall:(eO d).take d.slots.length=eO d:=jAe (by simp);have hw1:=zCa hlt e1;rw[hce]at hw1;have hdr14:List.drop (i*31+14) (z6 (m.defs.set i (d.wb e1)))=(zK (d.wb e1)++z6 ((m.defs.set i (d.wb e1)).drop (i+1))).drop 14:=by have:=yD (l:=m.defs.set i (d.wb e1)) (i:=i) (by simpa using hlt);rw[<-jBc,this,jDu]
    have hb14:i*31+14+15<=n*31:=by omega
    have hnodes:=zKe e1 gl;simp[mkS,mkB,zK];intro _;refine⟨qS [(2,.ptr 2 0),(4,.ptr 3 0),(8,int next),(13,.ptr 0 0),(14,int i),(15,.ptr 4 0),(16,.sl (eO d).length (qC (eO d)))],mkS m++[.box [.nil,.nil],.box [.sl M.length (qG M),.row 1 n],.box (zK d)],
     mw [0,1,2,3,4] 1 (by rfl) (by simp[mkS,mkB,zK,hall]),?_⟩
    unfold zVQ;simp[mkS,mkB,zK];refine zNs g1 [0,1] (by decide) (by simp[mkS,mkB,mkA]) (by simp[zB]) (by simp) (by simp) (by simp[mkS]) (by simp[mkS,gd,hli];exact zXv) ?_;have hclen:(z6 m.defs).length=n*31:=by rw[zLr,hli]
    have hdq:∀X:wE,List.drop (i*31+14) (List.take (i*31+14) (z6 m.defs)++X)=X:=fun X=>jD5 (by rw[jAs,hclen];omega)
    have hlen15:i*31+14+15<=min (i*31+14) (n*31)+(15+(n*31-(i*31+14+15))):=by omega
    simp[mkS,mkB,gd,hli,h,hb14,hdq,hlen15];refine mu hnodes (by simp) ?_;rcases hcase with ⟨c30,hm'⟩|⟨c30,e2,m2,g2,gd2,gm2,hm'⟩
    .have c30':¬(30:Int)<(tmps e1).length:=by omega
     simp[c30'];exact zS (i+1) h (by omega) (kf [0,1,2,3] 0 (by rfl) (by simp[mkS,mkB,hms',hm',mkD,gd,hli,<-hw1]) (by simp[wi]))
    .have c30':(30:Int)<(tmps e1).length:=by omega
     have hw2:=zCa (ds:=m.defs.set i (d.wb e1)) (i:=i) (by simpa using hlt) e2;rw[jDu]at hw2;have hww:(d.wb e1).wb e2=d.wb e2:=rfl;rw[hww,List.set_set]at hw2;simp[c30',hw1];refine zNs g2 [0,1] (by decide) (by simp[mkS,mkB,mkL,mkD,gd,hli]) (by simp[zB]) (by simp) (by simp) (by simp[mkS]) (by simp[mkS,gd2,hli];exact zXv) ?_;simp[mkS,mkB,gd2,hli,h,hb14];exact zS (i+1) h (by omega) (kf [0,1,2,3] 0 (by rfl) (by simp[mkS,mkB,hms',hm',mkD,gd2,hli,<-hw2]) (by simp[wi]))
 .have hie:i=n:=by omega
  subst hie;have hli:=hlen i hi;simp[mkS,mkB,hli];exact⟨_,_,mw [0,1,2,3] 0 (by rfl) (by simp[mkS,mkB,hli]),hD⟩
theorem zIX{l:List ByteArray}{i:Nat}(h:i<l.length):(yT l).drop i=.lit (.string l[i])::yT (l.drop (i+1)):=by have:=eX (enc:=zRn) (k:=1) (fun _=>rfl) h;rw[Nat.mul_one]at this;exact this
theorem zGE(mods:Int)(ps:List Pln)(c:Int){i:Nat}(h:i<ps.length):tZ mods ps c (i+1)=tZ mods ps c i++(if ps[i].mod=c then [idR (mods+i)]else []):=by
 simp only[tZ,List.range_succ,jD8,jC0]
 congr 1
 simp only[List.filter_cons,jA1 h,List.filter_nil,decide_eq_true_eq];split<;>simp
theorem zPa{mods:Int}{ps:List Pln}{c:Int}(h:∀p∈ps,p.mod≠c)(i:Nat):tZ mods ps c i=[]:=by
 simp only[tZ,List.map_eq_nil_iff,List.filter_eq_nil_iff];intro j _;split
 .rename_i p hp;have:=h p (jBt hp)
  simpa using this
 .simp
theorem zJF(mods:Int)(ps:List Pln)(c:Int)(i:Nat):(tZ mods ps c i).length<=i:=by simp only[tZ,jAb];exact jBv (jCq _ _) (by simp)
def m0C:wE:=[int (idR 0).a,int (idR 0).b,int (idR 0).c,.lit (.string ⟨#[99,111,114,101]⟩)]
def m1C:wE:=[int (idR 1).a,int (idR 1).b,int (idR 1).c,.lit (.string ⟨#[109,105,108,108]⟩),.fsl 1 (zL (idR 0))]
def MC:Nat->wE
 | 0=>[]
 | 1=>m0C++[.nil,.nil]
 |_=>m0C++[.nil,.nil]++m1C++[.nil]
def MR(nm k0 k1:Nat):wE:=if nm=1 then m0C++[.row 5 k1,.row 4 k0]else m0C++[.nil,.row 4 k0]++m1C++[.row 5 k1]
theorem zOg{rf:Bool->Nat->Nat->A}{g:Nat->wC}{nm k0 k1:Nat}(h4:g 4=some 4)(h5:g 5=some 5):vwL rf g (MR nm k0 k1)=MR nm k0 k1:=by unfold MR;split<;>simp[m0C,m1C,h4,h5,zL]
def stB(nm:Nat)(ps:List Pln)(i:Nat):St :=
 [.box [.nil,.nil],.box [.row 2 nm,.row 3 i],.row false 112 6 nm (MR nm (tZ nm ps 0 i).length (tZ nm ps 1 i).length),.row false 41 31 i (z6 ((oS nm ps).take i)),
  .row false 31 3 (tZ nm ps 0 i).length (zV (tZ nm ps 0 i)),.row false 31 3 (tZ nm ps 1 i).length (zV (tZ nm ps 1 i))]
theorem zFM(next:Int)(p:Pln){k:Nat}(h:k<p.types.length):jN ((dP next p).take (k+1))=jN ((dP next p).take k)++j4 (zHh next p k):=by
 have:=zCb (l:=dP next p) (i:=k) (by simpa using h);rw[this]
 congr 2
 simp[dP]
theorem qGX(l:wB)(hl:∀x∈l,w64 x=x)(nm:Nat)(hnm:nm=1\/nm=2)(ps:List Pln)(hps:ps=qI l nm)(p:Prg)
 (hC:wpK prog 0 zMZ (zL9 p) (qS [(0,.sl l.length (yC l)),(2,.ptr 0 0),(4,.ptr 1 0),(8,int (cF nm ps ps.length))])
  [.box [.nil,.nil],.box [.sl (zDj nm ps).length (qG (zDj nm ps)),.row 2 ps.length],.row false 41 31 ps.length (z6 (oS nm ps))]) :
 wpK prog 0 zQu (zL9 p) (qS [(0,.sl l.length (yC l)),(2,.ptr 0 0),(3,int nm),(4,.ptr 1 0)])
  [.box [.nil,.nil],.box [.row 2 nm,.row 3 0],.row false 112 6 nm (MC nm),.row false 41 31 0 []]:=by
 have hpl:=zS8 l nm (by omega) (by omega) hl;have hok:=eY l nm (by omega) (by omega) hl;have hlen:=(b6 l nm).2;rw[<-hps]at hpl hok hlen;have hnr:=mF (mods:=nm) (ps:=ps) (by omega) (fun p hp=>(hok p hp).t6);have w0:=z8 ((nm:Int)+ps.length) (by omega);have start:bW 0 (qS [(0,.sl l.length (yC l)),(2,.ptr 0 0),(3,int nm),(4,.ptr 1 0),(7,.sl ps.length (aD ps)),(8,int (nm+ps.length)),(9,int 0)]) (stB nm ps 0)
  (qS [(0,.sl l.length (yC l)),(2,.ptr 0 0),(3,int nm),(4,.ptr 1 0),(7,.sl ps.length (aD ps)),(8,int (nm+ps.length)),(9,int 0)])
  [.box [.nil,.nil],.box [.row 2 nm,.row 3 0],.row false 112 6 nm (MC nm),.row false 41 31 0 []]:=by
  rcases hnm with rfl|rfl
  .exact((mH (l:=2) (o:=5) rfl rfl 31 3).trans (mH (l:=2) (o:=4) rfl rfl 31 3)).trans (mw [0,1,2,3,4,5] 0 (by rfl) (by simp[stB,MC,MR,m0C,m1C,tZ]))
  .exact((mH (l:=2) (o:=5) rfl rfl 31 3).trans (mH (l:=2) (o:=11) rfl rfl 31 3)).trans (mw [0,1,2,3,4,5] 0 (by rfl) (by simp[stB,MC,MR,m0C,m1C,tZ,zL]))
 have hl1:(oS nm ps).length=ps.length:=zO1 _ _;unfold zQu;simp;refine mu hpl (by simp) ?_;simp[w0];intro _;refine qO (S:=Nat) (fun i=>[(0,.sl l.length (yC l)),(2,.ptr 0 0),(3,int nm),(4,.ptr 1 0),(7,.sl ps.length (aD ps)),(8,int (cF nm ps i)),(9,int i)]) (fun i=>stB nm ps i) (fun i=>i<=ps.length) (fun i=>ps.length-i) 0 (by simp)
  (bW.trans (kf [0,1,2,3] 0 (by rfl) (by rcases hnm with rfl|rfl<;>simp[MC,m0C,m1C]) (by simp)) start) ?_
 intro i hi;by_cases h:i<ps.length
 .have hpk:=hok _ (jA0 h);obtain⟨n0,n1⟩:=hnr i;have hns:=zEM nm ps h;have hdg:=zCg nm ps h;have hst:=zBZ (l:=oS nm ps) (i:=i) (by omega);rw[hdg]at hst;clear hdg;have hcg:=zIV h;have i0:=zGE nm ps 0 h;have i1:=zGE nm ps 1 h;have l0:=zJF nm ps 0 i;have l1:=zJF nm ps 1 i;have hi8:(i:Int)<=8:=by omega
  have wi:=jY i (by omega);have wmi:=z8 ((nm:Int)+i) (by omega);have hcg5:List.drop (i*11+5) (aD ps)=(dM ps[i]++aD (ps.drop (i+1))).drop 5:=by rw[<-jBc,hcg]
  have hb5:i*11+5+5<=ps.length*11:=by omega
  generalize ps[i]=q at *
  generalize cF nm ps i=nx at *
  simp[stB,h,hcg,hcg5,hb5,dM,wmi];intro _;refine j3 (tU (nm+i)) (by simp) (by simp) ?_;simp[h,hcg,hcg5,hb5,dM];refine j3 (tU q.mod) (by simp) (by simp) ?_;simp[h,hcg,hcg5,hb5,dM,zL];refine qO (S:=Nat) (fun k=>[(0,.sl l.length (yC l)),(2,.ptr 0 0),(3,int nm),(4,.ptr 1 0),(7,.sl ps.length (aD ps)),(8,int (nx+k)),(9,int i),(10,.ptr 6 0),(11,int k)])
   (fun k=>stB nm ps i++[.box [int (idR (nm+i)).a,int (idR (nm+i)).b,int (idR (nm+i)).c,int q.kind,int (idR q.mod).a,int (idR q.mod).b,int (idR q.mod).c,.lit (.string q.name),.row 7 k,int q.out.k,int q.out.id.a,int q.out.id.b,int q.out.id.c,.sl q.out.kids.length (jL q.out.kids),int 0,int 0,int 0,int 0,int 0,int 0,int 0,int 0,int 0,int 0,int 0,int 0,.nil,.nil,.nil,int 0,.nil],
    .row false 85 11 k (jN ((dP nx q).take k))]) (fun k=>k<=q.types.length) (fun k=>q.types.length-k) 0 (by simp)
   ((yJ (l:=6) (o:=8) rfl rfl 85 11).trans (mw [0,1,2,3,4,5,6,7] 0 (by rfl) (by simp[stB,zOg]))) ?_
  intro k hk;by_cases hkl:k<q.types.length
  .have hnl:=hpk.names;have hkn:k<q.names.length:=by omega
   have hN:=zIX hkn;have hT:=mC hkl;have hT5:k*5+5<=q.types.length*5:=by omega
   have hS:=zFM nx q hkl;have t6:=hpk.t6;have wnk:=z8 (nx+(k:Int)+1) (by omega);have wk:=jY k (by omega);have hcg2:List.drop (i*11+2) (aD ps)=(dM q++aD (ps.drop (i+1))).drop 2:=by rw[<-jBc,hcg]
   have hsv:zHh nx q k=⟨idR (nx+k),q.names[k],q.types[k],if q.kind=4 then q.most.getD k 0 else 0,k⟩:=by simp[zHh,jB7,hkn,hkl]
   rw[hsv]at hS;by_cases hk4:q.kind=4
   .have hkm:k<q.most.length:=by have:=hpk.most hk4;omega
    have hM:=iG hkm;have hmg:q.most[k]?.getD 0=q.most[k]:=by simp[hkm]
    have hkm':k+1<=q.most.length:=hkm;simp[stB,h,hcg,dM,hkl]
    intros
    refine j3 (tU (nx+k)) (by simp) (by simp) ?_;simp[h,hcg,dM,hkn,hkl,hN,hT,hT5,zB,hk4,zL,hM,hkm,hkm']
    intros
    refine⟨⟨by simp[maxLen];omega,by omega⟩,?_⟩;exact zS (k+1) hkl (by omega) (kf [0,1,2,3,4,5,6,7] 0 (by rfl) (by rw[hS];simp[stB,zOg,j4,hk4,hmg]) (by simp[wk,wnk];omega))
   .simp[stB,h,hcg,dM,hkl]
    intros
    refine j3 (tU (nx+k)) (by simp) (by simp) ?_;simp[h,hcg,dM,hkn,hkl,hN,hT,hT5,zB,hk4,zL]
    intros
    refine⟨⟨by simp[maxLen];omega,by omega⟩,?_⟩;exact zS (k+1) hkl (by omega) (kf [0,1,2,3,4,5,6,7] 0 (by rfl) (by rw[hS];simp[stB,zOg,j4,hk4]) (by simp[wk,wnk];omega))
  .have hke:k=q.types.length:=by omega
   subst hke;have hall:(dP nx q).take q.types.length=dP nx q:=jAe (by simp);have t6:=hpk.t6;simp[stB,h,hcg,dM]
   intros
   refine⟨qS [(0,.sl l.length (yC l)),(2,.ptr 0 0),(3,int nm),(4,.ptr 1 0),(7,.sl ps.length (aD ps)),(8,int (nx+q.types.length)),(9,int i),(10,.ptr 6 0)],stB nm ps i++[.box (zK (zJb nm nx i q))],
    mw [0,1,2,3,4,5,6] 1 (by rfl) (by simp[stB,zOg,zK,zJb,hall,Exp.zero,Id.zero,Typ.zero]),?_⟩
   unfold zVR;have m0:=hpk.mod0;have m1:=hpk.mod1;have hen:zK (zJb nm nx i q)=zL (idR (nm+i))++(zK (zJb nm nx i q)).drop 3:=rfl;have hcase:nm=1/\q.mod=0\/nm=2/\q.mod=0\/nm=2/\q.mod=1:=by omega
   have hd3:List.take 3 (zK (zJb nm nx i q))=[int (idR (nm+i)).a,int (idR (nm+i)).b,int (idR (nm+i)).c]:=rfl;rcases hcase with ⟨rfl,hq⟩|⟨rfl,hq⟩|⟨rfl,hq⟩
   .have en:((1:Nat):Int)=1:=rfl;simp only[hq,en,if_true,if_false,show ((0:Int)=1)=False from by simp,show ((1:Int)=0)=False from by simp,jBa]at i0 i1 hst hns l0 l1 hd3;simp[stB,h,hcg,dM,hq,MR,m0C,m1C,zL];refine⟨by simp[maxLen];omega,⟨by simp[maxLen];omega,by omega⟩,?_⟩;exact zS (i+1) h (by omega) (mw [0,1,2,3,4,5] 0 (by rfl) (by simp[stB,MR,m0C,m1C,zL,i0,i1,hst,hd3,yH,wi,hns]))
   all_goals
    have en:((2:Nat):Int)=2:=rfl;simp only[hq,en,if_true,if_false,show ((0:Int)=1)=False from by simp,show ((1:Int)=0)=False from by simp,jBa]at i0 i1 hst hns l0 l1 hd3;simp[stB,h,hcg,dM,hq,MR,m0C,m1C,zL];refine⟨by simp[maxLen];omega,⟨by simp[maxLen];omega,by omega⟩,?_⟩;exact zS (i+1) h (by omega) (mw [0,1,2,3,4,5] 0 (by rfl) (by simp[stB,MR,m0C,m1C,zL,i0,i1,hst,hd3,yH,wi,hns]))
 .have hie:i=ps.length:=by omega
  subst hie;have hall:(oS nm ps).take ps.length=oS nm ps:=jAe (by simp);simp[stB]
  intros
  rcases hnm with rfl|rfl
  .have hn1:tZ ((1:Nat):Int) ps 1 ps.length=[]:=zPa (fun p hp=>by have:=(hok p hp).mod1;omega) _;have en:((1:Nat):Int)=1:=rfl;simp only[en]at hn1 hall;exact⟨_,_,mw [0,1,3] 2 (by rfl) (by simp[zDj,MR,m0C,m1C,fM,nQ,hall,hn1]),hC⟩
  .have en:((2:Nat):Int)=2:=rfl;simp only[en]at hall;exact⟨_,_,mw [0,1,3] 2 (by rfl) (by simp[zDj,MR,m0C,m1C,fM,nQ,hall,zL]),hC⟩
theorem zKG{e:Exp}{c:Int}(hc:c∈tmps e):∀{ks:wG},e∈ks->c∈yQ ks
 |x::ks,h=>by
  simp only[yQ,jAc];rcases jA3.1 h with rfl|h
  .exact .inl hc
  .exact .inr (zKG hc h)
theorem zN8:∀(ks:wG),ks.length<=(yQ ks).length
 |[]=>jA _
 |e::ks=>by
  have:=zN8 ks;have h1:1<=(tmps e).length:=by rw[fV,jA5,jAz];omega
  simp only[yQ,jA5,jA9];omega
section
variable{N:Nat}{i:Id}{k n:Int}{r:Id}{t:Typ}{ks:wG}{ns:List ByteArray}
theorem y8(hb:∀c∈tmps (.mk i k n r t ks ns),0<=c/\c<N)(hl:(tmps (.mk i k n r t ks ns)).length<=1000000000)(hk:k≠2)(hs:∀e∈ks,e.under N):(Exp.mk i k n r t ks ns).under N:=by simp only[Exp.under,zAK];have:=zN8 ks;simp only[tmps,jA5,jAz]at hl;exact⟨hb i.c (by simp[tmps]),fun h=>(hk h).elim,by omega,hs⟩
theorem dI(hb:∀c∈tmps (.mk i k n r t ks ns),0<=c/\c<N){e:Exp}(he:e∈ks):∀c∈tmps e,0<=c/\c<N:=fun c hc=>hb c (by simp only[tmps,jAc];exact .inl (zKG hc he))
theorem dJ(hl:(tmps (.mk i k n r t ks ns)).length<=1000000000){e:Exp}(he:e∈ks):(tmps e).length<=1000000000:=by have:=zF2 he;simp only[tmps,jA5,jAz]at hl;omega
end
theorem zSl{env:wJ}{x:Id}{n:Int}{t:Typ}(h:fI env x n=some t):∃b∈env,b.id=x/\b.n=n/\b.typ=t:=by simp only[fI,jAh]at h;obtain⟨b,hb,rfl⟩:=h;have h1:=jDj hb;have h2:=jD9 hb;simp only[jA6,decide_eq_true_eq]at h2;exact⟨b,by simpa using h1,h2.1,h2.2,rfl⟩
theorem zTm{hs:wP}{own:Int}{N:Nat}{env:wJ}{e:Exp}{t:Typ}(h:WT hs own env e t):(∀b∈env,b.id.b=0->0<=b.id.c/\b.id.c<N)->(∀c∈tmps e,0<=c/\c<N)->(tmps e).length<=1000000000->e.under N:=by
 induction h with
 |int env i n h1 h2=>exact fun _ hb hl=>y8 hb hl (by omega) (by simp)
 |bool env i n h=>exact fun _ hb hl=>y8 hb hl (by omega) (by simp)
 |var env i n x t h =>
  intro he hb hl;simp only[Exp.under,zCK,and_true];obtain⟨b,h1,h2,_,_⟩:=zSl h;exact⟨hb i.c (by simp[tmps]),fun _ h0=>by rw[<-h2]at h0 ⊢;exact he b h1 h0,by simp⟩
 |call env i k h ks ho hk hlen hw ih =>
  refine fun he hb hl=>y8 hb hl (by omega) fun e hm=>?_
  obtain⟨j,hj,rfl⟩:=jAn hm;exact ih j hj he (dI hb hm) (dJ hl hm)
 |arith env i n a b h1 h2 ha hb' iha ihb =>
  refine fun he hb hl=>y8 hb hl (by omega) fun e hm=>?_
  have k1:=dI hb hm;have k2:=dJ hl hm;simp only[jA3,jAw,or_false]at hm;rcases hm with rfl|rfl
  .exact iha he k1 k2
  .exact ihb he k1 k2
 |less env i a b ha hb' iha ihb =>
  refine fun he hb hl=>y8 hb hl (by omega) fun e hm=>?_
  have k1:=dI hb hm;have k2:=dJ hl hm;simp only[jA3,jAw,or_false]at hm;rcases hm with rfl|rfl
  .exact iha he k1 k2
  .exact ihb he k1 k2
 |same env i a b u ha hb' iha ihb =>
  refine fun he hb hl=>y8 hb hl (by omega) fun e hm=>?_
  have k1:=dI hb hm;have k2:=dJ hl hm;simp only[jA3,jAw,or_false]at hm;rcases hm with rfl|rfl
  .exact iha he k1 k2
  .exact ihb he k1 k2
 |andor env i n a b h ha hb' iha ihb =>
  refine fun he hb hl=>y8 hb hl (by omega) fun e hm=>?_
  have k1:=dI hb hm;have k2:=dJ hl hm;simp only[jA3,jAw,or_false]at hm;rcases hm with rfl|rfl
  .exact iha he k1 k2
  .exact ihb he k1 k2
 |not env i a ha iha =>
  refine fun he hb hl=>y8 hb hl (by omega) fun e hm=>?_
  have k1:=dI hb hm;have k2:=dJ hl hm;simp only[jA3,jAw,or_false]at hm;subst hm;exact iha he k1 k2
 |join env i a b t ha hb' iha ihb =>
  refine fun he hb hl=>y8 hb hl (by omega) fun e hm=>?_
  have k1:=dI hb hm;have k2:=dJ hl hm;simp only[jA3,jAw,or_false]at hm;rcases hm with rfl|rfl
  .exact iha he k1 k2
  .exact ihb he k1 k2
 |len env i a t ha iha =>
  refine fun he hb hl=>y8 hb hl (by omega) fun e hm=>?_
  have k1:=dI hb hm;have k2:=dJ hl hm;simp only[jA3,jAw,or_false]at hm;subst hm;exact iha he k1 k2
 |ite env i a b c t ha hb' hc iha ihb ihc =>
  refine fun he hb hl=>y8 hb hl (by omega) fun e hm=>?_
  have k1:=dI hb hm;have k2:=dJ hl hm;simp only[jA3,jAw,or_false]at hm;rcases hm with rfl|rfl|rfl
  .exact iha he k1 k2
  .exact ihb he k1 k2
  .exact ihc he k1 k2
 |lets env i a b u t ns hn ha hb' iha ihb =>
  refine fun he hb hl=>y8 hb hl (by omega) fun e hm=>?_
  have k1:=dI hb hm;have k2:=dJ hl hm;have ki:=hb i.c (by simp[tmps]);simp only[jA3,jAw,or_false]at hm;rcases hm with rfl|rfl
  .exact iha he k1 k2
  .refine ihb (fun b hb0 h0=>?_) k1 k2;rcases jAc.1 hb0 with hb0|hb0
   .exact he b hb0 h0
   .rw[jAo.1 hb0];exact ki
 |record env i k h ks hk hlen hw ih =>
  refine fun he hb hl=>y8 hb hl (by omega) fun e hm=>?_
  obtain⟨j,hj,rfl⟩:=jAn hm;exact ih j hj he (dI hb hm) (dJ hl hm)
 |field env i k h j hj a hk ha iha =>
  refine fun he hb hl=>y8 hb hl (by omega) fun e hm=>?_
  have k1:=dI hb hm;have k2:=dJ hl hm;simp only[jA3,jAw,or_false]at hm;subst hm;exact iha he k1 k2
 |case env i k h j hj a hk ha iha =>
  refine fun he hb hl=>y8 hb hl (by omega) fun e hm=>?_
  have k1:=dI hb hm;have k2:=dJ hl hm;simp only[jA3,jAw,or_false]at hm;subst hm;exact iha he k1 k2
 |mtch env i k h a ks t ns hn hk hlen ha hw iha ih =>
  refine fun he hb hl=>y8 hb hl (by omega) fun e hm=>?_
  have k1:=dI hb hm;have k2:=dJ hl hm;have ki:=hb i.c (by simp[tmps]);rcases jA3.1 hm with rfl|hm
  .exact iha he k1 k2
  .obtain⟨j,hj,rfl⟩:=jAn hm;refine ih j hj (fun b hb0 h0=>?_) k1 k2;rcases jAc.1 hb0 with hb0|hb0
   .exact he b hb0 h0
   .rw[jAo.1 hb0];exact ki
 |list env i t ks hw ih =>
  refine fun he hb hl=>y8 hb hl (by omega) fun e hm=>?_
  obtain⟨j,hj,rfl⟩:=jAn hm;exact ih j hj he (dI hb hm) (dJ hl hm)
 |fold env i l s b u t ns hn hl' hs' hb' ihl ihs ihb =>
  refine fun he hb hl=>y8 hb hl (by omega) fun e hm=>?_
  have k1:=dI hb hm;have k2:=dJ hl hm;have ki:=hb i.c (by simp[tmps]);simp only[jA3,jAw,or_false]at hm;rcases hm with rfl|rfl|rfl
  .exact ihl he k1 k2
  .exact ihs he k1 k2
  .refine ihb (fun b hb0 h0=>?_) k1 k2;rcases jAc.1 hb0 with hb0|hb0
   .rcases jAc.1 hb0 with hb0|hb0
    .exact he b hb0 h0
    .rw[jAo.1 hb0];exact ki
   .rw[jAo.1 hb0];exact ki
structure Renamed(hs:List Hd)(k:Nat)(d:Dfn)(base:Int)(e:Exp)(f:Int->Id):Prop where
 body:d.body=iN f e
 wt:WT hs k (eO d) e d.res
 nd:(tmps e).Nodup
 num:e.num0
 len:(tmps e).length<=32768
 ids:∀(j:Nat) (h:j<(tmps e).length),f (tmps e)[j]=idR (base+j)
def nmV(l:wB):Nat:=(1+atV l 0 2).toNat
theorem zSx(l:wB)(hl:∀x∈l,w64 x=x):(nmV l:Int)=1+atV l 0 2/\(nmV l=1\/nmV l=2):=by obtain⟨a,b⟩:=jT (i:=0) hl (most:=2) (by omega);unfold nmV;omega
structure PrgOk(l:List Int)(P:Prg):Prop where
 mods:P.mods=zDj (nmV l) (qI l (nmV l))
 heads:P.defs.map Dfn.hd=hsV l (nmV l)
 bodies:∃base:Nat->Int,base 0=cF (nmV l) (qI l (nmV l)) (qI l (nmV l)).length/\∀(k:Nat) (d:Dfn),P.defs[k]?=some d ->
  (fA d=false/\d.body=Exp.zero/\base (k+1)=base k)\/(fA d=true/\∃e f,Renamed (hsV l (nmV l)) k d (base k) e f/\base (k+1)=base k+(tmps e).length)
theorem zWC{hs:wP}{n:Nat}{ms:Nat->Mk}(hf:∀i<n,zMU hs i (ms i) (ms (i+1))):∀i≤n,(ms 0).temp<=(ms i).temp/\(∀j,i<=j->(ms i).defs[j]?=(ms 0).defs[j]?) /\
 ∀j<i,∀d,(ms 0).defs[j]?=some d->(fA d=false/\(ms i).defs[j]?=some d)\/(fA d=true/\∃e lo,(ms i).defs[j]?=some (d.wb e)/\BGood hs j d lo (ms i).temp e/\(ms 0).temp<=lo)
 | 0,_=>⟨jAd _,fun _ _=>rfl,fun j hj=>by omega⟩
 |i+1,hi=>by
  obtain⟨t,c1,c2⟩:=zWC hf i (by omega);obtain⟨d,hd,ht,hc⟩:=hf i (by omega);have hlt:=(jA4.1 hd).1;have hd0:=c1 i (jA _);rw[hd]at hd0;rcases hc with ⟨hk,he⟩|⟨⟨hk0,hk1⟩,e,he,hg⟩
  .have hbd:fA d=false:=by rcases hk with h|h<;>simp[fA,h]
   refine⟨by omega,fun j hj=>by rw[he];exact c1 j (by omega),fun j hj d' hd'=>?_⟩;rw[he];by_cases e:j=i
   .subst e;rw[<-hd0]at hd';cases hd';exact .inl ⟨hbd,hd⟩
   .rcases c2 j (by omega) d' hd' with h|⟨h,e,lo,h1,h2,h3⟩
    .exact .inl h
    .exact .inr ⟨h,e,lo,h1,⟨h2.wt,h2.seg.mono (jAd _) ht,h2.num,h2.len⟩,h3⟩
  .have hbd:fA d=true:=by simp[fA,hk0,hk1]
   refine⟨by omega,fun j hj=>by rw[he,jAa (by omega)];exact c1 j (by omega),fun j hj d' hd'=>?_⟩;rw[he];by_cases e:j=i
   .subst e;rw[<-hd0]at hd';cases hd';exact .inr ⟨hbd,_,_,jAk hlt,hg,t⟩
   .rw[jAa (Ne.symm e)];rcases c2 j (by omega) d' hd' with h|⟨h,e,lo,h1,h2,h3⟩
    .exact .inl h
    .exact .inr ⟨h,e,lo,h1,⟨h2.wt,h2.seg.mono (jAd _) ht,h2.num,h2.len⟩,h3⟩
theorem zUX(l:wB)(hl:∀x∈l,w64 x=x):∃P:Prg,PrgOk l P/\my 37 [.sl l.length (yC l)] [] (.agg (zN P)) []:=by
 obtain⟨hnm,hnm2⟩:=zSx l hl;generalize hN:nmV l=nm at *
 have m1:1<=(nm:Int):=by omega
 have m2:(nm:Int)<=2:=by omega
 generalize hps:qI l nm=ps;have h8:=(b6 l nm).2;have h6:=eY l nm m1 m2 hl;rw[hps]at h8 h6;have hnr:=mF (mods:=nm) (ps:=ps) (by omega) (fun p hp=>(h6 p hp).t6) ps.length;generalize hM:zDj nm ps=M;obtain⟨m0,hm0⟩:∃m0:Mk,m0={mods:=M,defs:=oS nm ps,l:=l,at_:=24,temp:=0,left:=0,own:=0,home:=Id.zero,name:=0}:=⟨_,rfl⟩;have hi0:BInv l nm 0 m0:=by rw[hm0];exact⟨by rw[hsV,hps];rfl,by rw[hps,hM],rfl,by simp,by simp,by simp,by simp⟩
 obtain⟨ms,b0,b1,b2⟩:=zOo m1 m2 hl m0 hi0;rw[hps]at b1 b2;have hds0:(ms 0).defs=oS nm ps:=by rw[b0,hm0]
 have ht0:(ms 0).temp=0:=by rw[b0,hm0]
 have hlen:∀i≤ps.length,(ms i).defs.length=ps.length:=fun i hi=>by
  have:=congrArg List.length (b1 i hi).heads
  simpa[hps]using this
 have hslots:∀i≤ps.length,∀d∈(ms i).defs,d.slots.length<=6:=fun i hi d hd=>by obtain⟨j,hj,rfl⟩:=jAn hd;have:=zCi m1 m2 hl (i:=j) (d:=(ms i).defs[j]) (by rw[<-(b1 i hi).heads,jBs,jA1 hj];rfl) 0;have h6:=this.2.2.1;rw[zBf]at h6;exact h6
 obtain⟨c0,_,c2⟩:=zWC (fun i hi=>(b2 i hi).2) ps.length (jA _);rw[ht0]at c0 c2;have htn:=(b1 ps.length (jA _)).temp1;obtain⟨N,hNn⟩:∃N:Nat,(ms ps.length).temp=N:=⟨(ms ps.length).temp.toNat,by omega⟩;have hhd:=(b1 ps.length (jA _)).heads;have hbody:∀(k:Nat) (d:Dfn),(ms ps.length).defs[k]?=some d->(fA d=false/\d.body=Exp.zero)\/(fA d=true/\WT (hsV l nm) k (eO d) d.body d.res/\(tmps d.body).Nodup/\d.body.num0/\(tmps d.body).length<=32768/\∀c∈tmps d.body,0<=c/\c<N):=fun k d hd=>by
  have hk:=(jA4.1 hd).1;rw[hlen _ (jA _)]at hk;have hd0:(ms 0).defs[k]?=some (zJb nm (cF nm ps k) k ps[k]):=by rw[hds0,jA1 (by simpa using hk),zCg nm ps hk]
  rcases c2 k hk _ hd0 with ⟨h1,h2⟩|⟨h1,e,lo,h2,h3,h4⟩
  .rw[h2]at hd;cases hd;exact .inl ⟨h1,rfl⟩
  .rw[h2]at hd;cases hd;refine .inr ⟨h1,h3.wt,h3.seg.nd,h3.num,h3.len,fun c hc=>?_⟩;have:=h3.seg.rng c hc;omega
 have hunder:∀d∈(ms ps.length).defs,fA d=true->d.body.under N/\(∀c∈tmps d.body,0<=c/\c<N)/\(tmps d.body).length<=1000000:=fun d hd hbd=>by
  obtain⟨k,hk,rfl⟩:=jAn hd;have hg:(ms ps.length).defs[k]?=some (ms ps.length).defs[k]:=jA1 hk;rcases hbody k _ hg with ⟨h,_⟩|⟨_,h1,h2,h3,h4,h5⟩
  .rw[hbd]at h;cases h
  .refine⟨zTm h1 (fun b hb h0=>?_) h5 (by omega),h5,by omega⟩;have:=(zCi m1 m2 hl (i:=k) (d:=(ms ps.length).defs[k]) (by rw[<-hhd,jBs,hg];rfl) 0).1.new b hb h0;exfalso;have hn:=(zCi m1 m2 hl (i:=k) (d:=(ms ps.length).defs[k]) (by rw[<-hhd,jBs,hg];rfl) (b.id.c-0)).1.new b hb h0;omega
 obtain⟨s,hs⟩:∃s:NSt,s=⟨(ms ps.length).defs,vX N,cF nm ps ps.length⟩:=⟨_,rfl⟩;have hsd:s.ds=(ms ps.length).defs:=by rw[hs]
 have hsi:s.ids.length=N:=by rw[hs];simp[vX]
 have hsn:s.next=cF nm ps ps.length:=by rw[hs]
 refine⟨⟨M,(eJ s ps.length).ds⟩,⟨by rw[hN,hps,hM],?_,fun k=>(eJ s k).next,?_,fun k d hd=>?_⟩,?_⟩
 .rw[hN,zEK,hsd,hhd]
 .rw[hN,hps];exact hsn
 .rw[hN];have hk:=(jA4.1 hd).1;have hl1:=(vH s ps.length).1;rw[hsd,hlen _ (jA _)]at hl1;simp only at hk hd;rw[hl1]at hk;rw[zGM s ps.length hk]at hd;have hg:s.ds[k]?=some ((ms ps.length).defs[k]'(by rw[hlen _ (jA _)];exact hk)):=by rw[hsd];exact jA1 _
  have hst:=zCz s hg;have hcur:(eJ s k).ds[k]?=s.ds[k]?:=tB s k k (jA _);rw[hg]at hcur;have hil:=(vH s k).2;rw[hsi]at hil;have hb:=hbody k _ (jA1 (by rw[hlen _ (jA _)];exact hk));generalize (ms ps.length).defs[k]'(by rw[hlen _ (jA _)];exact hk)=d' at *
  dsimp only
  rw[hst]at hd ⊢;rcases hb with ⟨h1,h2⟩|⟨h1,h2,h3,h4,h5,h6⟩
  .rw[if_neg (by simp[h1])]at hd ⊢;rw[hcur]at hd;cases hd;exact .inl ⟨h1,h2,rfl⟩
  .rw[if_pos h1]at hd ⊢;simp only at hd ⊢;rw[jAk (jA4.1 hcur).1]at hd;cases hd;refine .inr ⟨h1,d'.body,_,⟨rfl,h2,h3,h4,h5,fun j hj=>?_⟩,rfl⟩;exact zK5 _ _ _ h3 (fun x hx=>by rw[hil];exact h6 x hx) j hj
 .have hp6:∀p∈ps,p.types.length<=6:=fun p hp=>(h6 p hp).t6
  have hD:=qGZ (ms ps.length) M (cF nm ps ps.length) N hNn (by omega) (by omega) (by omega) (by rw[hlen _ (jA _)];omega) hunder;rw[<-hs,hlen _ (jA _)]at hD;have hC:=qGY l M ps.length (by omega) (cF nm ps ps.length) m0 (by rw[hm0]) ms b0 hlen hslots (fun i hi=>(b2 i hi).1) ⟨M,(eJ s ps.length).ds⟩ (by rw[hlen _ (jA _)];exact hD);have hm0d:m0.defs=oS nm ps:=by rw[hm0]
  rw[hm0d]at hC;have hB:=qGX l hl nm hnm2 ps hps.symm ⟨M,(eJ s ps.length).ds⟩ (by rw[hM];exact hC);have ha:=dK l 0 2 (by omega);have wn:IntKind.i64.wrap (1+atV l 0 2)=nm:=by rw[<-hnm];exact IntWalk.i64_in _ (by omega)
  refine zM Tryz.func37 rfl qKQ (rs:=[.cell 2 2 true]) (by kernel_rfl) ?_;unfold qCX;simp;refine mu ha (by simp) ?_;simp[wn];refine qO (S:=Nat) (fun i=>[(0,.sl l.length (yC l)),(2,.ptr 0 0),(3,int nm),(4,.ptr 1 0),(5,int i)])
   (fun i=>[.box [.nil,.nil],.box [.row 2 i,.row 3 0],.row false 112 6 i (MC i),.row false 41 31 0 []]) (fun i=>i<=nm) (fun i=>nm-i) 0 (by simp)
   (((yJ (l:=1) (o:=0) rfl rfl 112 6).trans (yJ (l:=1) (o:=1) rfl rfl 41 31)).trans (mw [0,1,2,3] 0 (by rfl) (by simp[MC]))) ?_
  intro i hi;by_cases h:i<nm
  .have hi2:i=0\/i=1:=by omega
   have k0:=tU 0;have k1:=tU i;rcases hi2 with rfl|rfl
   .have k1':my 83 [int 0] [] (.agg (zL (idR 0))) []:=k0;simp[h,MC];refine j3 k1' (by simp) (by simp) ?_;simp[h,zL];refine⟨by simp[maxLen],?_⟩;exact zS 1 h (by omega) (mw [0,1,2,3] 0 (by rfl) (by simp[MC,m0C,show IntKind.i64.wrap 1=1 by decide]))
   .have hn2:nm=2:=by omega
    subst hn2;have k1':my 83 [int 1] [] (.agg (zL (idR 1))) []:=tU 1;simp[MC];refine j3 k1' (by simp) (by simp) ?_;simp[zL];refine mu k0 (by simp) ?_;simp[zL];refine⟨by simp[maxLen],?_⟩;exact zS 2 (by omega) (by omega) (mw [0,1,2,3] 0 (by rfl) (by simp[MC,m0C,m1C,zL,show IntKind.i64.wrap 2=2 by decide]))
  .have hie:i=nm:=by omega
   subst hie;simp;exact⟨_,_,kf [0,1,2,3] 0 (by rfl) (by rcases hnm2 with rfl|rfl<;>simp[MC,m0C,m1C,zL]) (by simp),hB⟩
end Go.Proofs.YtdnelmeboihpkaaGreatDoor

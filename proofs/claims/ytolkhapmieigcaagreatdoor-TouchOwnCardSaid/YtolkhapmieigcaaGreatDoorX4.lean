/- Soundness of every operation. -/
import Derived.Test.YtolkhapmieigcaaGreatDoorX3
import Derived.TacticsIn
import Derived.OrdersIn
set_option linter.unusedVariables false
set_option maxHeartbeats 8000000
set_option maxRecDepth 100000
set_option linter.unusedSimpArgs false
namespace Go.Abs
section
variable{P:Program}{H:Mem}{L:wO} {U:St}{w:World}{N:Nat}{env:Env}{a:Act}
def fY:KOp->Bool
 | .alloc .. | .box .. | .bslice .. | .brow .. | .st .. | .app .. | .call .. | .mop .. | .alr .. | .rslc .. | .isz .. | .pan .. | .shr .. | .apq ..=>false
 |_=>true
inductive From(P:Program)(o:Oper):KOp->Prop
 |alloc (e:TypeId) (i:TypeInfo) (z:Value) (ho:o.op=.alloc e) (hi:P.info? e=some i) (hz:i.zero=some z) (hok:aY z.cells.toList=true):From P o (.alloc o.dst z.cells.toList)
 |box (e:TypeId) (x:Operand) (ho:o.op=.box e x):From P o (.box o.dst x)
 |bslice (t e:TypeId) (n:Nat) (parts:Array (Nat×Operand)) (j:TypeInfo) (z:Value) (ps:List (Nat×Nat×Operand)) (ho:o.op=.buildSlice t n parts) (hu:P.underlying t=some (.slice e)) (hj:P.info? e=some j) (hz:j.zero=some z)
  (hn:n*j.size<=4096) (h0:0<j.size) (hok:aY z.cells.toList=true) (hzs:z.cells.size=j.size) (hps:nQ (fun i=>some (i*j.size,j.size)) parts.toList=some ps):From P o (.bslice o.dst e j.size n ((List.replicate n z.cells.toList).flatten) ps)
 |st (t:TypeId) (x v:Operand) (i:TypeInfo) (ho:o.op=.store t x v) (hi:P.info? t=some i):From P o (.st o.dst x v i.size)
 |app (c:Call) (t e:TypeId) (x y:Operand) (j:TypeInfo) (z:Value) (ho:o.op=.call c) (hc:c.callee=.builtin .append) (ha:c.args.toList=[x,y]) (ht:c.argTypes.toList=[t,t]) (hu:P.underlying t=some (.slice e)) (hj:P.info? e=some j)
  (hz:j.zero=some z) (hok:aY z.cells.toList=true) (hzs:z.cells.size=j.size) (h0:0<j.size):From P o (.app o.dst e j.size j.bytes x y)
 |call (c:Call) (f:Operand) (ho:o.op=.call c) (hc:c.callee=.value f):From P o (.call o.dst f c.args.toList)
 |mmk (t k e:TypeId) (nk:Nat) (ho:o.op=.makeMap t none) (ht:P.underlying t=some (.map k e)) (hk:zBe P k=some nk):From P o (.mop o.dst (.mk nk) [])
 |mget (t k e:TypeId) (x y:Operand) (ok:Bool) (nk:Nat) (j:TypeInfo) (z:Value) (ho:o.op=.lookup t x y ok) (ht:P.underlying t=some (.map k e)) (hk:zBe P k=some nk) (hj:P.info? e=some j) (hz:j.zero=some z):From P o (.mop o.dst (.get nk z ok) [x,y])
 |mset (t k e:TypeId) (x y v:Operand) (nk:Nat) (ho:o.op=.mapUpdate t x y v\/o.op=.insert t x y v) (ht:P.underlying t=some (.map k e)) (hk:zBe P k=some nk):From P o (.mop o.dst (.set nk) [x,y,v])
 |mdel (c:Call) (t k e:TypeId) (x y:Operand) (nk:Nat) (ho:o.op=.call c) (hc:c.callee=.builtin .delete) (ha:c.args.toList=[x,y]) (hat:c.argTypes[0]?=some t) (ht:P.underlying t=some (.map k e)) (hk:zBe P k=some nk):From P o (.mop o.dst (.del nk) [x,y])
 |mrng (t k e:TypeId) (x:Operand) (ho:o.op=.range t x) (ht:P.underlying t=some (.map k e)):From P o (.mop o.dst .rng [x])
 |mnxt (x:Operand) (ho:o.op=.next x false):From P o (.mop o.dst .nxt [x])
 |ment (x:Operand) (ho:o.op=.entry x):From P o (.mop o.dst .ent [x])
 |mclr (c:Call) (t e:TypeId) (x:Operand) (j:TypeInfo) (z:Value) (ho:o.op=.call c) (hc:c.callee=.builtin .clear) (ha:c.args.toList=[x]) (hat:c.argTypes[0]?=some t) (hu:P.underlying t=some (.slice e)) (hj:P.info? e=some j)
  (hz:j.zero=some z) (hok:aY z.cells.toList=true) (hzs:z.cells.size=j.size) (h0:0<j.size):From P o (.mop o.dst (.clr j.size z.cells.toList) [x])
 |mmks (t e:TypeId) (x y:Operand) (j:TypeInfo) (z:Value) (ho:o.op=.makeSlice t x y) (hu:P.underlying t=some (.slice e)) (hj:P.info? e=some j)
  (hz:j.zero=some z) (hok:aY z.cells.toList=true) (hzs:z.cells.size=j.size) (h0:0<j.size):From P o (.mop o.dst (.mks e j.size j.bytes z.cells.toList) [x,y])
 |mcvt (s d:TypeId) (x:Operand) (k:IntKind) (ho:o.op=.convert s d x) (hs:(P.underlying s).isSome=true) (hd:P.underlying d=some (.int k)):From P o (.mop o.dst (.cvt k) [x])
 |mstr (s d e:TypeId) (x:Operand) (ho:o.op=.convert s d x) (hs:P.underlying s=some (.slice e)) (he:P.underlying e=some (.int .u8)) (hd:P.underlying d=some .string):From P o (.mop o.dst .str [x])
 |pan (x:Operand) (ho:o.op=.panic x):From P o (.pan o.dst x)
 |pure (k:KOp) (hk:fY k=true) (hd:k.dst=o.dst):From P o k
variable{t:TypeId}
theorem zCe{nk:Nat}(h:zQc P t=some nk):∃k e,P.underlying t=some (.map k e)/\zBe P k=some nk:=by
 unfold zQc at h;split at h<;>try(cases h;done)
 rename_i k e hu;exact⟨k,e,hu,h⟩
variable{o:Oper}
theorem y3{k:KOp}(hc:aB P o=some k):From P o k:=by
 unfold aB at hc;split at hc
 case h_1 x heq=>cases hc;exact .pure _ rfl rfl
 case h_2 x heq=>cases hc;exact .pure _ rfl rfl
 case h_3 c x y heq=>cases hc;exact .pure _ rfl rfl
 case h_4 e heq =>
  simp only[jAj,jAa]at hc;obtain⟨i,hi,z,hz,hc⟩:=hc;split at hc
  .rename_i hok;cases hc;exact .alloc e i z heq hi hz hok
  .cases hc
 case h_5 e x heq=>cases hc;exact .box e x heq
 case h_6 t x heq =>
  simp only[jAj,jAa,jA3]at hc;obtain⟨u,hu,i,hi,rfl⟩:=hc;exact .pure _ rfl rfl
 case h_7 t x y heq =>
  simp only[jAj,jAa,jA3]at hc;obtain⟨i,hi,rfl⟩:=hc;exact .st t x y i heq hi
 case h_8 s x f heq =>
  split at hc<;>try(cases hc;done)
  simp only[jAj,jAa]at hc;obtain⟨g,hg,i,hi,hc⟩:=hc;split at hc<;>try(cases hc;done)
  cases hc;exact .pure _ rfl rfl
 case h_9 t x i heq =>
  split at hc<;>try(cases hc;done)
  all_goals
   simp only[jAj,jAa,jA3]at hc;obtain⟨ti,hi,rfl⟩:=hc;exact .pure _ rfl rfl
 case h_10 t x f heq =>
  split at hc<;>try(cases hc;done)
  simp only[jAj,jAa,jA3]at hc;obtain⟨g,hg,u,hu,i,hi,rfl⟩:=hc;exact .pure _ rfl rfl
 case h_11 t x i heq =>
  split at hc<;>try(cases hc;done)
  simp only[jAj,jAa,jA3]at hc;obtain⟨u,hu,j,hj,rfl⟩:=hc;exact .pure _ rfl rfl
 case h_12 op t x y t' heq =>
  split at hc<;>try(cases hc;done)
  all_goals try(cases hc;exact .pure _ rfl rfl)
  all_goals
   split at hc
   .cases hc;exact .pure _ rfl rfl
   .split at hc
    .cases hc;exact .pure _ rfl rfl
    .rcases zBI hc with ⟨hn,rfl⟩|⟨ks,hk,rfl⟩<;>exact .pure _ rfl rfl
 case h_13 op t x heq =>
  split at hc<;>try(cases hc;done)
  all_goals (cases hc;exact .pure _ rfl rfl)
 case h_14 t i heq=>cases hc;exact .pure _ rfl rfl
 case h_15 f first cap heq=>cases hc;exact .pure _ rfl rfl
 case h_16 t x lo hi mx heq =>
  split at hc<;>try(cases hc;done)
  simp only[jAj,jAa,jA3]at hc;obtain⟨i,hi,rfl⟩:=hc;exact .pure _ rfl rfl
 case h_17 t parts heq =>
  split at hc<;>try(cases hc;done)
  .simp only[jAj,jAa]at hc;obtain⟨i,hi,z,hz,hc⟩:=hc;split at hc<;>try(cases hc;done)
   simp only[jAa,jA3]at hc;obtain⟨ps,hps,rfl⟩:=hc;exact .pure _ rfl rfl
  .simp only[jAj,jAa]at hc;obtain⟨i,hi,z,hz,j,hj,hc⟩:=hc;split at hc<;>try(cases hc;done)
   simp only[jAa,jA3]at hc;obtain⟨ps,hps,rfl⟩:=hc;exact .pure _ rfl rfl
 case h_18 t len parts heq =>
  split at hc<;>try(cases hc;done)
  rename_i e hu;simp only[jAj,jAa]at hc;obtain⟨j,hj,z,hz,hc⟩:=hc;split at hc<;>try(cases hc;done)
  rename_i hb;simp only[jA8,decide_eq_true_eq,beq_iff_eq]at hb;simp only[jAa,jA3]at hc;obtain⟨ps,hps,rfl⟩:=hc;exact .bslice t e len parts j z ps heq hu hj hz hb.1.1.1 hb.1.1.2 hb.1.2 hb.2 hps
 case h_19 c heq =>
  split at hc
  .rename_i f hcal;split at hc
   .split at hc
    .cases hc;exact .call c _ heq hcal
    .cases hc
   .cases hc;exact .call c _ heq hcal
   .cases hc
  .split at hc<;>try(cases hc;done)
   split at hc<;>try(cases hc;done)
   all_goals (cases hc;exact .pure _ rfl rfl)
  .rename_i hcal;split at hc<;>try(cases hc;done)
   rename_i x y t ha ht;simp only[jAf]at hc;obtain⟨nk,hnk,rfl⟩:=hc;obtain⟨k,e,hu,hk⟩:=zCe hnk;exact .mdel c t k e x y nk heq hcal ha ht hu hk
  .rename_i hcal;split at hc<;>try(cases hc;done)
   rename_i x t ha ht;split at hc<;>try(cases hc;done)
   rename_i e hu;simp only[jAj,jAa]at hc;obtain⟨j,hj,z,hz,hc⟩:=hc;split at hc<;>try(cases hc;done)
   rename_i hb;simp only[jA8,decide_eq_true_eq,beq_iff_eq]at hb;cases hc;exact .mclr c t e x j z heq hcal ha ht hu hj hz hb.1.1 hb.1.2 hb.2
  .cases hc;exact .pure _ rfl rfl
  .cases hc;exact .pure _ rfl rfl
  .rename_i hcal;split at hc<;>try(cases hc;done)
   rename_i x y t t' ha ht;split at hc<;>try(cases hc;done)
   rename_i htt;subst htt;split at hc<;>try(cases hc;done)
   rename_i e hu;simp only[jAj,jAa]at hc;obtain⟨j,hj,z,hz,hc⟩:=hc;split at hc<;>try(cases hc;done)
   rename_i hb;simp only[jA8,decide_eq_true_eq,beq_iff_eq]at hb;cases hc;exact .app c t e x y j z heq hcal ha ht hu hj hz hb.1.1 hb.1.2 hb.2
  .cases hc
 case h_20 x heq=>cases hc;exact .pure _ rfl rfl
 case h_21 t heq =>
  simp only[jAf]at hc;obtain⟨nk,hnk,rfl⟩:=hc;obtain⟨k,e,hu,hk⟩:=zCe hnk;exact .mmk t k e nk heq hu hk
 case h_22 t x y ok heq =>
  split at hc<;>try(cases hc;done)
  rename_i k e hu;simp only[jAj,jAa,jA3]at hc;obtain⟨nk,hk,j,hj,z,hz,rfl⟩:=hc;exact .mget t k e x y ok nk j z heq hu hk hj hz
 case h_23 t m k v heq =>
  simp only[jAf]at hc;obtain⟨nk,hnk,rfl⟩:=hc;obtain⟨k',e,hu,hk⟩:=zCe hnk;exact .mset t k' e m k v nk (.inl heq) hu hk
 case h_24 t x heq =>
  split at hc<;>try(cases hc;done)
  rename_i k e hu;cases hc;exact .mrng t k e x heq hu
 case h_25 x heq=>cases hc;exact .mnxt x heq
 case h_26 x heq=>cases hc;exact .ment x heq
 case h_27 t x heq =>
  split at hc<;>try(cases hc;done)
  split at hc<;>try(cases hc;done)
  cases hc;exact .pure _ rfl rfl
 case h_28 x heq=>cases hc;exact .pan x heq
 case h_29 t x y heq =>
  split at hc<;>try(cases hc;done)
  rename_i e hu;simp only[jAj,jAa]at hc;obtain⟨j,hj,z,hz,hc⟩:=hc;split at hc<;>try(cases hc;done)
  rename_i hb;simp only[jA8,decide_eq_true_eq,beq_iff_eq]at hb;cases hc;exact .mmks t e x y j z heq hu hj hz hb.1.1 hb.1.2 hb.2
 case h_30 s d x heq =>
  split at hc<;>try(cases hc;done)
  .rename_i k hd;split at hc<;>try(cases hc;done)
   rename_i hs;cases hc;exact .mcvt s d x k heq hs hd
  .rename_i hd;split at hc<;>try(cases hc;done)
   rename_i e hs;split at hc<;>try(cases hc;done)
   rename_i he;cases hc;exact .mstr s d e x heq hs he hd
 case h_31 t m k v heq =>
  simp only[jAf]at hc;obtain⟨nk,hnk,rfl⟩:=hc;obtain⟨k',e,hu,hk⟩:=zCe hnk;exact .mset t k' e m k v nk (.inr heq) hu hk
 case h_32=>cases hc
variable{x:Operand}
theorem zA3{d:wD}{sz:Nat}{lo hi mx:Option Operand}(hc:aB P o=some (.slc d x sz lo hi mx)) :
 ∃t e i,o.op=.slice t x lo hi mx/\P.underlying t=some (.slice e)/\P.info? e=some i/\i.size=sz/\o.dst=d:=by
 generalize hkk:KOp.slc d x sz lo hi mx=kk at hc;unfold aB at hc;split at hc
 case h_16 t x' lo' hi' mx' heq =>
  split at hc<;>try(cases hc;done)
  rename_i e hu;simp only[jAj,jAa,jA3]at hc;obtain⟨i,hi0,rfl⟩:=hc;cases hkk;exact⟨t,e,i,heq,hu,hi0,rfl,rfl⟩
 all_goals
  exfalso
  revert hc
  subst hkk;intro hc
  repeat' (first|(cases hc;done)|(rcases zBI hc with ⟨_,h⟩|⟨_,_,h⟩<;>cases h;done)|(simp only[jAj,jAa,jAf,jA3,reduceCtorEq,and_false,exists_false,exists_const]at hc;done)|(simp only[jAj,jAa]at hc;obtain⟨_,_,hc⟩:=hc)|(obtain⟨_,_,hc⟩:=hc)|(split at hc))
theorem zGT{d:wD}{ng:Bool}(hc:aB P o=some (.isn d ng x)) :
 ∃t y t',o.op=.binOp (if ng then .neq else .eql) t x y t'/\zFP P t y=true/\o.dst=d:=by
 generalize hkk:KOp.isn d ng x=kk at hc;unfold aB at hc;split at hc
 case h_12 op t x' y t' heq =>
  split at hc<;>try first|(cases hc;cases hkk;done)|(cases hc;done)
  all_goals
   split at hc
   .cases hc;cases hkk
   .split at hc
    .rename_i hn;cases hc;cases hkk;exact⟨t,y,t',heq,hn,rfl⟩
    .rcases zBI hc with ⟨hn,rfl⟩|⟨ks,hk,rfl⟩<;>cases hkk
 all_goals
  exfalso
  revert hc
  subst hkk;intro hc
  repeat' (first|(cases hc;done)|(simp only[jAj,jAa,jAf,jA3,reduceCtorEq,and_false,exists_false,exists_const]at hc;done)|(simp only[jAj,jAa]at hc;obtain⟨_,_,hc⟩:=hc)|(obtain⟨_,_,hc⟩:=hc)|(split at hc))
theorem bI{k:KOp}(hc:aB P o=some k):k.dst=o.dst:=by cases y3 hc<;>first|rfl|assumption
theorem oU(zs:wM)(s:Nat)(hz:zs.length=s)(hs:0<s):∀n:Nat,(List.range (n*s)).map (fun i=>zs.toArray[i % zs.toArray.size]!)=(List.replicate n zs).flatten
 | 0=>by simp
 |n+1=>by
  rw[jB7,Nat.one_mul,List.range_add,jBa,oU zs s hz hs n,jBy,List.replicate_succ',jCm]
  congr 1
  simp only[List.flatten_cons,List.flatten_nil,jAt];apply jCi;intro i;simp only[jBi,jC7,hz];rcases jB2 i s with hi|hi
  .rw[List.getElem?_range hi];simp only[jBz,Function.comp];rw[Nat.mul_comm n s,Nat.mul_add_mod,Nat.mod_eq_of_lt hi];have hi':i<zs.length:=by omega
   simp[hi']
  .rw[jBf (by simpa using hi),jBf (by omega)];rfl
variable{cs:wF}{us:wM}
theorem zFY(hs:RelSt H L U w)(e:TypeId){n sz:Nat}(hn:n<=maxLen)(hl:cs.length=n*sz)(hr:qE H L cs us)(h1:∀u∈us,one u) :
 Nxt H L w H (L++[(⟨some w.heap.size,n,n,true⟩:LI)]) (U++[AObj.row false e sz n cs]) (w.alloc (.cells us.toArray e)):=by
 have hll:=LLe.append L [(⟨some w.heap.size,n,n,true⟩:LI)];refine⟨⟨fun b o v hv=>?_,by simp[hs.len],fun i l o hL hU=>?_,fun i j l l' b hi hj hb hb'=>?_,fun i l b hL hb=>?_⟩,
  ⟨rfl,rfl,rfl,by simp,fun k hk _=>heap_alloc_old w _ (h:=hk),HLe.refl _,fun b o v hv=>.inl hv,jA _,pI (fun k hk=>heap_alloc_old w _ (h:=hk))⟩,hll,fun b ⟨i,l,hL,hb⟩=>?_⟩
 .rw[World.cell?_alloc_lt _ _ _ (hs.h_lt hv)];exact hs.pers b o v hv
 .rcases jU hL with hL'|⟨rfl,rfl⟩
  .have hi:i<L.length:=(jA5.1 hL').1;rw[jAp (by rw[<-hs.len];exact hi)]at hU;exact(hs.obj i l o hL' hU).carry (fun b hb=>heap_alloc_old w _ (h:=hs.lt i l b hL' hb)) (HLe.refl _) hll (fun _ _ _=>rfl)
  .rw[hs.len]at hU;rw[jB9 (jA _)]at hU;simp only[jBn,jB8,jA3]at hU;subst hU;have hlen:=hr.length;have htk:(us.toArray.toList.take (n*sz))=us:=by rw[jAl (by simp;omega)]
   simp only[qB];refine⟨trivial,trivial,hl,.inr ⟨w.heap.size,us.toArray,rfl,heap_alloc_new w _,jA _,hn,by simp;omega,?_,?_,fun o=>?_⟩⟩
   .rw[htk];exact qE.mono (HLe.refl _) hll _ hr
   .rw[htk];exact h1
   .cases hH:H w.heap.size o with
    |none=>rfl
    |some v=>have:=hs.h_lt hH;omega
 .rcases jU hi with hi'|⟨rfl,rfl⟩
  .rcases jU hj with hj'|⟨rfl,rfl⟩
   .exact hs.inj i j l l' b hi' hj' hb hb'
   .cases hb';have:=hs.lt i l _ hi' hb;omega
  .cases hb;rcases jU hj with hj'|⟨rfl,rfl⟩
   .have:=hs.lt j l' _ hj' hb';omega
   .rfl
 .rcases jU hL with hL'|⟨rfl,rfl⟩
  .have:=hs.lt i l b hL' hb;simp;omega
  .cases hb;simp
 .rcases jU hL with hL'|⟨rfl,rfl⟩
  .exact .inl ⟨i,l,hL',hb⟩
  .cases hb;exact .inr (jA _)
theorem zHM:∀{cs:wF} {xs:wC},vW cs=some xs->∀{i:Nat},i<xs.length->cs[i]?=some (.lit (.int .u8 (xs.getD i 0)))
 |[],xs,h,i,hi=>by simp[vW]at h;subst h;simp at hi
 |c::cs,xs,h,i,hi=>by
  unfold vW at h;split at h
  .rename_i heq;cases heq
  .rename_i n l heq;cases heq;rw[jAf]at h;obtain⟨ys,h1,rfl⟩:=h;cases i with
   |zero=>simp
   |succ i=>simpa using zHM h1 (i:=i) (by simpa using hi)
  .cases h
theorem zNj{n:Nat}{v:Value}(h:Rel H L (.fsl n cs) v):Rel H L (.sl n cs) v:=by simp only[Rel]at h⊢;obtain⟨ad,hv,h1,h2⟩:=h;exact⟨ad,n,hv,jA _,h1,h2⟩
variable{e:TypeId}{j:TypeInfo}
theorem zYR{e' ty:TypeId}{z:Value}(hu:P.underlying t=some (.slice e))(hj:P.info? e=some j)(hz:j.zero=some z)(hok:aY z.cells.toList=true)(hzs:z.cells.size=j.size)(h0:0<j.size)
 (hs:RelSt H L U w){x:Value}{l n o k c m:Nat}(hx:Rel H L (.win l n o k c) x)(hU:U[l]?=some (.row false e' j.size m cs))(hn:n=m)(hle:o+k*j.size<=cs.length) :
 ∃w',(Builtin.clear_ #[t] ty #[x]).run P w=.ok (.tuple #[]) w' /\
  Nxt H L w H L (U.set l (.row false e' j.size n (cs.take o++(List.replicate k (z.cells.toList.map jP)).flatten++cs.drop (o+k*j.size)))) w':=by
 simp only[Rel]at hx;obtain⟨_,li,e1,e2,e3,hv⟩:=hx;have hob:=hs.obj l li _ e1 hU;simp only[qB]at hob;obtain⟨_,hln,hcl,hob⟩:=hob;subst hn;obtain⟨g0,ad,cap,rfl,g1,g2,g3⟩:=hv hln.symm;by_cases hk:k=0
 .subst hk;refine⟨w,?_,?_⟩
  .cases ad<;>simp[Builtin.clear_,run_underlying hu]
  .have hcs:cs.take o++(List.replicate 0 (z.cells.toList.map jP)).flatten++cs.drop (o+0*j.size)=cs:=by simp
   rw[hcs];have hset : U.set l (.row false e' j.size n cs) = U:=by
    apply jCi;intro i;by_cases hi:i=l
    .subst hi;rw[jAo (jA5.1 hU).1,hU]
    .rw[jAh (Ne.symm hi)]
   rw[hset];exact Nxt.refl hs
 .replace g3:=zOS g1 g3;rcases g3 with g3|⟨b,hb,rfl⟩
  .exact(hk g3).elim
  rcases hob with ⟨h0',_⟩|⟨b',cur,hb',hh,k1,k2,k3,k4,k5,k6⟩
  .rw[hb]at h0';cases h0'
  .rw[hb]at hb';cases hb';have hzl:z.cells.toList.length=j.size:=by rw[jB5,hzs]
   have hrf:=oU z.cells.toList j.size hzl h0 k;simp only[jDj]at hrf;let us:wM:=(List.replicate k z.cells.toList).flatten;have hus:(Builtin.zeroCells z.cells k).toList=us:=by simp only[Builtin.zeroCells,us,<-hrf,hzs];simp
   have husl:us.length=k*j.size:=by simp[us,hzl]
   have hone:∀u∈us,one u:=fun u hu=>by simp only[us,jDs,jDh]at hu;obtain⟨l,⟨_,rfl⟩,hu⟩:=hu;exact jB3.1 hok u hu
   have hmc:n*j.size<=cur.size:=by rw[k3];exact jBl _ k1
   have hcs:o+us.length<=cur.size:=by rw[husl];omega
   have hst:=run_storeCells_at P b o e' us 0 cur w hh (by simpa using hcs) hone;have hrel:qE H L ((List.replicate k (z.cells.toList.map jP)).flatten) us:=by
    have:∀k:Nat,qE H L ((List.replicate k (z.cells.toList.map jP)).flatten) ((List.replicate k z.cells.toList).flatten):=fun k=>by
     induction k with
     |zero=>simpa using jR
     |succ k ih=>simpa only[List.replicate_succ,List.flatten_cons]using (dB z.cells.toList).append ih
    exact this k
   refine⟨w.setRow b (cur.toList.take o++us++cur.toList.drop (o+us.length)).toArray,?_,?_⟩
   .obtain⟨k',rfl⟩:∃k',k=k'+1:=⟨k-1,by omega⟩;simp only[jCj]at hst;simp[Builtin.clear_,run_underlying hu,zeroValue,typeInfo,hj,hz,hus,hst]
   .refine zAj hs e1 hb rfl rfl rfl rfl (fun d=>by rw[hh];simp) (by simp) (fun k hk=>setRow_other w b k _ hk) (HLe.refl _) (fun _ _ _ h=>.inl h) (fun o' v hv=>by rw[k6]at hv;cases hv) ?_;have htake:(cur.toList.take o++us++cur.toList.drop (o+us.length)).take (n*j.size) =
     (cur.toList.take (n*j.size)).take o++us++(cur.toList.take (n*j.size)).drop (o+us.length):=by
     have hl1:(cur.toList.take o++us).length=o+us.length:=by simp;omega
     have hle2:o+us.length<=n*j.size:=by rw[husl,<-hcl];exact hle
     rw[List.take_append,hl1,jAl (by rw[hl1];exact hle2),List.take_take,jAx (by omega),List.drop_take]
    have hfl:((List.replicate k (z.cells.toList.map jP)).flatten).length=k*j.size:=by simp[hzl]
    simp only[qB];refine⟨e2,hln,by simp only[jA4,jAv,jCk,hfl];omega,.inr ⟨b,_,hb,setRow_heap w b _ _ e' _ hh,k1,k2,by simp;omega,?_,?_,k6⟩⟩
    .rw[htake,husl];exact((k4.take o).append hrel).append (k4.drop _)
    .rw[htake];intro u hu;simp only[jA6]at hu;rcases hu with (hu|hu)|hu
     .exact k5 u (jBu hu)
     .exact hone u hu
     .exact k5 u (jC1 hu)
theorem aX{k:KOp}(hc:aB P o=some k)(c:Call):o.op≠.defer c:=by intro h;simp[aB,h]at hc
variable{r:wD}
theorem zRF{n:Nat}{f:FuncId}{args:Array Value}{R:Ending->World->Prop}:CallsIn (Wr r) n P f args w R↔Calls P f args w R:=(callsIn_wide (n:=n) (P:=P) (f:=f) (args:=args) (w:=w) (R:=R))
variable{Kc:Act->World->Prop}{Qc:Exit->Act->World->Prop}
theorem yO(hnd:∀c,o.op≠.defer c){v:Value}{w':World}(h:(execOp a.eval o).run P w=.ok (.value v) w')(hK:Kc (a.put o.dst v) w'):o.wpIn (Wr r) 0 P a w Kc Qc:=by refine⟨fun _ _=>trivial,?_⟩;rw[Oper.semAt_eq _ _ _ hnd,h];exact hK
theorem qV(d:Option Tmp)(v:Value):(a.put d v).defers=a.defers:=by cases d<;>rfl
theorem zHq(hnd:∀c,o.op≠.defer c)(hd:∀x,o.dst=some x->x<N)(he:qL H L N env a.tmps)(hs:RelSt H L U w)
 (hr:qE H L cs us)(h1:∀u∈us,one u)(hrun:(execOp a.eval o).run P w=.ok (.value (.pointer (some ⟨w.heap.size,0,none⟩))) (w.alloc (.cells us.toArray e)))
 {K:wK}(h:K (env.put o.dst (.ptr U.length 0)) (U++[.box cs]))
 (hK:∀env' U' H' L' a' w',a'.defers=a.defers->qL H' L' N env' a'.tmps->Nxt H L w H' L' U' w'->K env' U'->Kc a' w'):o.wpIn (Wr r) 0 P a w Kc Qc:=by
 have hn:=zV2 hs e hr h1;refine yO hnd hrun (hK _ _ _ _ _ _ (qV _ _) ?_ hn h);refine(he.mono (HLe.refl _) hn.lle).put hd ?_;simp only[Rel];exact⟨⟨some w.heap.size,0,0,false⟩,w.heap.size,by rw[<-hs.len];simp,rfl,rfl,rfl⟩
variable{Qp:Value->wK}
theorem zNA{ro:wD}{k:KOp}(hc:aB P o=some k)(hd:∀x,o.dst=some x->x<N)(he:qL H L N env a.tmps)(hs:RelSt H L U w){K:wK}
 (h:wpO P Qp K k env U)
 (hK:∀env' U' H' L' a' w',a'.defers=a.defers->qL H' L' N env' a'.tmps->Nxt H L w H' L' U' w'->K env' U'->Kc a' w')
 (hQ:∀v U' H' L' w',Nxt H L w H' L' U' w'->Qp v env U'->Qc (.panic [{v,recovered:=false}]) a w'):o.wpIn (Wr ro) 0 P a w Kc Qc:=by
 have hdst:=bI hc;have hnd:=aX hc;have pure:∀p r,zW env U k=some (p,r)->p->K (env.put k.dst r) U->o.wpIn (Wr ro) 0 P a w Kc Qc:=by intro p r hp hp' hk;obtain⟨v,hrun,hrel⟩:=zNg (w:=w) hc hp hp' he hs;refine yO hnd hrun (hK _ _ _ _ _ _ (qV _ _) ?_ (Nxt.refl hs) hk);rw[hdst];exact he.put hd hrel
 have pureM:(jQ (zW env U k) fun r=>K (env.put k.dst r) U)->o.wpIn (Wr ro) 0 P a w Kc Qc:=by
  intro h;unfold jQ at h;split at h
  .rename_i p r hp;exact pure p r hp h.1 h.2
  .exact h.elim
 cases y3 hc with
 |alloc e i z ho hi hz hok =>
  simp only[wpO]at h;refine zHq hnd (e:=e) hd he hs (dB z.cells.toList) (fun u hu=>jB3.1 hok u hu) ?_ h hK;unfold execOp;simp only[ho];refine qS ?_;simp[Instr.alloc,zeroValue,typeInfo,hi,hz,newVar,newRow]
 |box e x ho =>
  simp only[wpO]at h;split at h
  .rename_i cs hcs;obtain⟨g1,g2⟩:=xB (qR he x) hcs;refine zHq hnd (e:=e) hd he hs g1 g2 ?_ h hK;unfold execOp;simp only[ho];refine qS ?_;simp[Instr.box,newVar,newRow]
  .exact h.elim
 |bslice t e n parts j z ps ho hu hj hz hn h0 hok hzs hps =>
  simp only[wpO]at h;split at h
  .rename_i cs hcs;have hzl:z.cells.toList.length=j.size:=by rw[jB5,hzs]
   have hj0:0<j.size:=h0;have hrf:=oU z.cells.toList j.size hzl hj0 n;simp only[jDj]at hrf;have harr:((Array.range (n*j.size)).map fun i=>z.cells[i % z.cells.size]!).toList=(List.replicate n z.cells.toList).flatten:=by rw[<-hrf];simp
   have hone:∀u∈(List.replicate n z.cells.toList).flatten,one u:=fun u hu=>by simp only[jDs,jDh]at hu;obtain⟨l,⟨_,rfl⟩,hu⟩:=hu;exact jB3.1 hok u hu
   obtain⟨arr,k1,k2,k3⟩:=zBO he (fun i=>some (i*j.size,j.size)) parts.toList ps _ ((Array.range (n*j.size)).map fun i=>z.cells[i % z.cells.size]!) cs hps hcs
    (by rw[harr];exact dB _) (by rw[harr];exact hone)
   obtain⟨hn1,hn2⟩:=zEi hs arr.toList e;have hnn:n<=4096:=jAz (Nat.le_mul_of_pos_right n hj0) hn;refine yO hnd (v:=.slice (some ⟨w.heap.size,0,none⟩) n n) ?_ (hK _ _ _ _ _ _ (qV _ _) ?_ hn1 h)
   .unfold execOp;simp only[ho];refine qS ?_;have hmap:(parts.map fun(i,x)=>(i,a.eval x)).toList=parts.toList.map fun(i,x)=>(i,a.eval x):=by simp
    have hb:¬(n*j.size > 2 ^ 24):=by omega
    unfold Instr.buildSlice;simp only[Sem.run_bind,run_underlying hu,Result.andThen_ok,yM hj,if_neg hb];by_cases hb0:n*j.size=0
    .have hz0:((Array.range (n*j.size)).map fun i=>(#[]:Array Value)[i % (#[]:Array Value).size]!)=(Array.range (n*j.size)).map fun i=>z.cells[i % z.cells.size]! := by rw[hb0];simp
     simp only[if_pos hb0,Sem.run_bind,Sem.run_pure,Result.andThen_ok,hmap];rw[hz0,k1];simp[newRow]
    .simp only[if_neg hb0,Sem.run_bind,Sem.run_pure,Result.andThen_ok,zeroValue,typeInfo,run_program,hj,hz,hmap];rw[k1];simp[newRow]
   .refine(he.mono hn1.step.hle hn1.lle).put hd ?_;simp only[Rel];exact⟨_,rfl,by simp only[maxLen];omega,.inr ⟨_,0,arr.toList,rfl,qE.mono hn1.step.hle hn1.lle _ k2,k3,hn2⟩⟩
  .exact h.elim
 |st t x v i ho hi =>
  simp only[wpO]at h;split at h
  .rename_i cs hcs;split at h
   .rename_i hn;split at h
    .rename_i U' hU';obtain⟨w',hrun,hnx⟩:=zT5 ho hi he hs hcs hn hU';refine⟨fun _ _=>trivial,?_⟩;rw[Oper.semAt_eq _ _ _ hnd,hrun];refine hK _ _ _ _ _ _ (qV _ _) ?_ hnx h;exact(he.mono (HLe.refl _) (LLe.refl _)).put hd (by simp[Rel])
    .exact h.elim
   .exact h.elim
  .exact h.elim
 |app c t e x y j z ho hcal ha ht hu hj hz hok hzs h0 =>
  simp only[wpO]at h;have ha':c.args = #[x,y]:=by cases hh:c.args;simp_all
  have ht':c.argTypes = #[t,t]:=by cases hh:c.argTypes;simp_all
  have run:∀v' w',(Builtin.append_ #[t,t] o.type #[a.eval x,a.eval y]).run P w=.ok v' w'->(execOp a.eval o).run P w=.ok (.value v') w':=by intro v' w' hr;unfold execOp;simp[ho,resolve,hcal,invoke,builtin,ha',ht',hr]
  split at h
  .rename_i m ys hye;obtain⟨hyl,h⟩:=h;split at h
   .rename_i hxe;have hx:=qR he x;rw[hxe]at hx;simp only[Rel]at hx;obtain⟨v',w',H',L',g1,g2,g3,g4⟩:=zUc (ty:=o.type) hu hj hz hok hzs h0 hs (qR he y) hye hyl h.1.1 h.1.2;exact yO hnd (run _ _ (by rw[hx];exact g1)) (hK _ _ _ _ _ _ (qV _ _) ((he.mono g3 g2.lle).put hd g4) g2 h.2)
   .rename_i l n hxe;have hx:=qR he x;rw[hxe]at hx;split at h
    .rename_i fz e' s n' cs hU;split at h
     .rename_i hn;obtain⟨rfl,rfl,rfl⟩:=hn;obtain⟨v',w',H',L',g1,g2,g3,g4⟩:=zNL (ty:=o.type) hu hj hz hok hzs h0 hs hU hx (qR he y) hye hyl h.1.1 h.1.2;exact yO hnd (run _ _ g1) (hK _ _ _ _ _ _ (qV _ _) ((he.mono g3 g2.lle).put hd g4) g2 h.2)
     .exact h.elim
    .exact h.elim
   .rename_i n cs hxe;have hx:=qR he x;rw[hxe]at hx;obtain⟨hcl,hz0,hz1⟩:=h;by_cases hm:m=0
    .have hx':=hx;simp only[Rel]at hx';obtain⟨ad,hv,_,_⟩:=hx';obtain⟨ad',c',hyv,_⟩:=x5 hs (qR he y) hye hyl h0;subst hm;refine yO hnd (run (a.eval x) w ?_) (hK _ _ _ _ _ _ (qV _ _) (he.put hd hx) (Nxt.refl hs) (hz0 rfl));rw[hv,hyv];exact mY hu hj ad n n (jA _) ad' c'
    .obtain⟨hb,hk⟩:=hz1 hm;obtain⟨v',w',H',L',g1,g2,g3,g4⟩:=zR1 (ty:=o.type) hu hj hz hzs h0 hs hx hcl (qR he y) hye hyl hm hb.1 hb.2;exact yO hnd (run _ _ g1) (hK _ _ _ _ _ _ (qV _ _) ((he.mono g3 g2.lle).put hd g4) g2 hk)
   .exact h.elim
  .exact h.elim
 |call c f ho hcal =>
  simp only[wpO]at h;split at h
  .rename_i g first cap hfe
   obtain⟨hcb,hcall⟩:=h;have hf:=qR he f;rw[hfe]at hf;simp only[Rel]at hf;obtain⟨fs,cs,hfv,h1,h2⟩:=hf;have hargs:=zAl he c.args.toList;have hcalls:=hcall H L w _ hs ((h1.append hargs).append h2);have hrun:(execOp a.eval o).run P w=.ok (.enter g (fs++c.args.toList.map a.eval++cs).toArray) w:=by
    unfold zA at hcb;split at hcb<;>try(cases hcb;done)
    rename_i fn hfn;simp only[jA8,jC3,beq_eq_false_iff_ne,ne_eq]at hcb;have hbn:fn.body.isNone=false:=by cases hb:fn.body<;>simp_all
    unfold execOp;simp only[ho,resolve,hcal,Deferred.ofValue,hfv,Sem.run_bind,Sem.run_pure,Result.andThen_ok,invoke,callFunc,run_program,hfn];simp only[beq_iff_eq,if_neg hcb.2,hbn,jAg,if_false,Sem.run_pure]
    congr 2
    apply jC9;simp
   refine⟨fun _ _=>trivial,?_⟩;rw[Oper.semAt_eq _ _ _ hnd,hrun];refine⟨fun hh=>by simp[Wr,Fence.wide]at hh,(zRF (r:=ro)).2 ?_⟩;refine hcalls.mono fun e w'' hh=>?_
   obtain⟨oo,U',H',L',ho1,ho2,ho3⟩:=hh;cases oo with
   |ret r =>
    obtain⟨v,rfl,hv⟩:=ho1;exact hK _ _ _ _ _ _ (qV _ _) ((he.mono ho2.step.hle ho2.lle).put hd hv) ho2 ho3
   |pan v =>
    simp only[zAC]at ho1;subst ho1;exact hQ v U' H' L' w'' ho2 ho3
  .rename_i b hfe;have hf:=qR he f;rw[hfe]at hf;simp only[Rel]at hf;obtain⟨fn,tmps,x,y,hy,hround⟩:=h H L w _ hs (zAl he c.args.toList);have hrun:(execOp a.eval o).run P w=.ok (.round b fn tmps x y) w:=by
    unfold execOp;have hmap:(c.args.toList.map a.eval).toArray=c.args.map a.eval:=by apply jC9;simp
    rw[hmap]at hy;simp only[ho,resolve,hcal,Deferred.ofValue,hf,Sem.run_bind,Sem.run_pure,Result.andThen_ok,invoke]
    first|exact hy|simpa using hy
   refine⟨fun _ _=>trivial,?_⟩;rw[Oper.semAt_eq _ _ _ hnd,hrun];refine⟨fun hh=>by simp[Wr,Fence.wide]at hh,RoundIn.mono (F:=Wr ro) hround fun e w'' hh=>?_⟩;obtain⟨oo,U',H',L',ho1,ho2,ho3⟩:=hh;cases oo with
   |ret r =>
    obtain⟨v,rfl,hv⟩:=ho1;exact hK _ _ _ _ _ _ (qV _ _) ((he.mono ho2.step.hle ho2.lle).put hd hv) ho2 ho3
   |pan v =>
    simp only[zAC]at ho1;subst ho1;exact hQ v U' H' L' w'' ho2 ho3
  .exact h.elim
 |mmk t k e nk ho ht hk =>
  simp only[wpO,jBm,eL]at h;have hnx:=qGx hs nk;refine yO hnd (v:=.map (some w.heap.size)) (w':=w.alloc (.map #[] 0)) ?_ (hK _ _ _ _ _ _ (qV _ _) ((he.mono hnx.step.hle hnx.lle).put hd ?_) hnx h)
  .unfold execOp;simp only[ho];exact qS rfl
  .simp only[Rel];exact⟨⟨some w.heap.size,0,0,false⟩,w.heap.size,by rw[<-hs.len];simp,rfl,rfl,rfl⟩
 |mget t k e x y ok nk j z ho ht hk hj hz =>
  simp only[wpO,jAd,jBm]at h;unfold eL at h;split at h<;>rename_i heq1 heq2<;>try(cases heq1;done)
  .cases heq1;rename_i l yk;simp only[jBd,and_true]at heq2;obtain⟨hxe,rfl⟩:=heq2;split at h
   .rename_i ks fr nk' es hky hU;obtain⟨rfl,h⟩:=h;obtain⟨hyv,hks⟩:=zFD hky (qR he y);have hx:=qR he x;rw[hxe]at hx;have hx':=hx;simp only[Rel]at hx';obtain⟨li,b,hL,hb,hrow,hxv⟩:=hx';have hob:=hs.obj l li _ hL hU;simp only[qB]at hob;obtain⟨_,b',ents,ck,e1,h2,hr,hbn,hn⟩:=hob;rw[hb]at e1;cases e1;obtain⟨v,hrun,hv⟩:=zUP (w:=w) ht hk hj hz hks h2 hr hn ok;refine yO hnd (v:=v) (w':=w) ?_ (hK _ _ _ _ _ _ (qV _ _) (he.put hd hv) (Nxt.refl hs) h);unfold execOp;simp only[ho];refine qS ?_;rw[hyv,hxv];exact hrun
   .exact h.elim
  .exact h.elim
 |mset t k e x y z nk ho ht hk =>
  simp only[wpO,jAd,jBm]at h;unfold eL at h;split at h<;>rename_i heq1 heq2<;>try(cases heq1;done)
  .cases heq1;rename_i l yk zv;simp only[jBd,and_true]at heq2;obtain⟨hxe,rfl,rfl⟩:=heq2;split at h
   .rename_i ks fr nk' es hky hU;obtain⟨rfl,h⟩:=h;obtain⟨hyv,hks⟩:=zFD hky (qR he y);have hx:=qR he x;rw[hxe]at hx;obtain⟨w',hrun,hnx⟩:=zBo ht hk hs hks hx hU (qR he z);have hrun':(execOp a.eval o).run P w=.ok .skip w':=by
     unfold execOp;rcases ho with ho|ho <;>
     .simp only[ho];rw[hyv,Sem.run_bind,hrun];rfl
    refine⟨fun _ _=>trivial,?_⟩;rw[Oper.semAt_eq _ _ _ hnd,hrun'];refine hK _ _ _ _ _ _ (qV _ _) ?_ hnx h;exact(he.mono (HLe.refl _) (LLe.refl _)).put hd (by simp[Rel])
   .exact h.elim
  .exact h.elim
 |mdel c t k e x y nk ho hc' ha hat ht hk =>
  simp only[wpO,jAd,jBm]at h;unfold eL at h;split at h<;>rename_i heq1 heq2<;>try(cases heq1;done)
  .cases heq1;rename_i l yk;simp only[jBd,and_true]at heq2;obtain⟨hxe,rfl⟩:=heq2;split at h
   .rename_i ks fr nk' es hky hU;obtain⟨rfl,h⟩:=h;obtain⟨hyv,hks⟩:=zFD hky (qR he y);have hx:=qR he x;rw[hxe]at hx;obtain⟨w',hrun,hnx⟩:=zYV ht hk hs hks hx hU c.argTypes hat o.type;have ha':c.args = #[x,y]:=by cases hh:c.args;simp_all
    refine yO hnd (v:=.tuple #[]) (w':=w') ?_ (hK _ _ _ _ _ _ (qV _ _) ((he.mono (HLe.refl _) (LLe.refl _)).put hd ?_) hnx h)
    .unfold execOp;rw[hyv.symm]at hrun;simp[ho,resolve,hc',invoke,builtin,ha',hrun]
    .simp only[Rel];exact⟨[],rfl,jR⟩
   .exact h.elim
  .exact h.elim
 |mrng t k e x ho ht =>
  simp only[wpO,jAd,jBm]at h;unfold eL at h;split at h<;>rename_i heq1 heq2<;>try(cases heq1;done)
  .cases heq1;rename_i l;simp only[jBd,and_true]at heq2;split at h
   .rename_i nk' es hU;have hx:=qR he x;rw[heq2]at hx;obtain⟨w',hrun,hnx⟩:=zZR ht hs hx hU;refine yO hnd (v:=.pointer (some ⟨w.heap.size,0,none⟩)) (w':=w') ?_ (hK _ _ _ _ _ _ (qV _ _) ((he.mono hnx.step.hle hnx.lle).put hd ?_) hnx h)
    .unfold execOp;simp only[ho];exact qS hrun
    .simp only[Rel];exact⟨⟨some w.heap.size,0,0,false⟩,w.heap.size,by rw[<-hs.len];simp,rfl,rfl,rfl⟩
   .exact h.elim
  .exact h.elim
 |mnxt x ho =>
  simp only[wpO,jAd,jBm]at h;unfold eL at h;split at h<;>rename_i heq1 heq2<;>try(cases heq1;done)
  .rename_i jx;simp only[jBd,and_true]at heq2;split at h
   .rename_i l n met hU;split at h
    .rename_i nk es hUl;obtain⟨hnn,hk1,hk2⟩:=h;have hx:=qR he x;rw[heq2]at hx;rcases zVw o.type hs hx hU hUl hnn with ⟨q1,q2⟩|⟨i,p,v,w',q1,q2,q3,q4,q5⟩
     .refine yO hnd (v:=.tuple #[.bool false]) (w':=w) ?_ (hK _ _ _ _ _ _ (qV _ _) (he.put hd ?_) (Nxt.refl hs) (hk2 q1))
      .unfold execOp;simp only[ho];exact qS q2
      .simp only[Rel];exact⟨[_],rfl,qN (by simp[Rel]) jR⟩
     .refine yO hnd (v:=.tuple #[.bool true,iN p.1,v]) (w':=w') ?_ (hK _ _ _ _ _ _ (qV _ _) ((he.mono (HLe.refl _) (LLe.refl _)).put hd ?_) q5 (hk1 i p q1 q2))
      .unfold execOp;simp only[ho];exact qS q3
      .simp only[Rel];exact⟨[_,_,_],rfl,qN (by simp[Rel]) (qN (zLl p.1) (qN q4 jR))⟩
    .exact h.elim
   .exact h.elim
  .exact h.elim
 |ment x ho =>
  simp only[wpO,jAd,jBm]at h;unfold eL at h;split at h<;>rename_i heq1 heq2<;>try(cases heq1;done)
  .rename_i jx;simp only[jBd,and_true]at heq2;split at h
   .rename_i l n met hU;split at h
    .rename_i nk es i hUl hmet;obtain⟨hnn,h⟩:=h;split at h
     .rename_i p hp;have hx:=qR he x;rw[heq2]at hx;obtain⟨v,q1,q2⟩:=zYZ hs hx hU hUl hnn hmet hp;refine yO hnd (v:=.tuple #[iN p.1,v]) (w':=w) ?_ (hK _ _ _ _ _ _ (qV _ _) (he.put hd ?_) (Nxt.refl hs) h)
      .unfold execOp;simp only[ho];exact qS q1
      .simp only[Rel];exact⟨[_,_],rfl,qN (zLl p.1) (qN q2 jR)⟩
     .exact h.elim
    .exact h.elim
   .exact h.elim
  .exact h.elim
 |mclr c t e x j z ho hcal ha hat hu hj hz hok hzs h0 =>
  simp only[wpO,jAd,jBm]at h;unfold eL at h;split at h<;>first|exact h.elim|(rename_i heq1 _;cases heq1;done)|skip
  rename_i l n o' k c' heq1 heq2;simp only[jBd,and_true]at heq2;cases heq1;split at h
  .rename_i fz e' s m cs hU;obtain⟨⟨h1,rfl,rfl,h3⟩,h⟩:=h;have hx:=qR he x;rw[heq2]at hx;obtain⟨w',hrun,hnx⟩:=zYR (ty:=o.type) hu hj hz hok hzs h0 hs hx hU h1 h3;have ha':c.args = #[x]:=by cases hh:c.args;simp_all
   have hat':(Builtin.clear_ c.argTypes o.type #[a.eval x]).run P w=.ok (.tuple #[]) w':=by rw[<-hrun];unfold Builtin.clear_;simp[hat]
   refine yO hnd (v:=.tuple #[]) (w':=w') ?_ (hK _ _ _ _ _ _ (qV _ _) ((he.mono hnx.step.hle hnx.lle).put hd (by simp[Rel,qE])) hnx h);unfold execOp;simp[ho,resolve,hcal,invoke,builtin,ha',hat']
  .exact h.elim
 |mmks t e x y j z ho hu hj hz hok hzs h0 =>
  simp only[wpO,jAd,jBm]at h;unfold eL at h;split at h<;>first|exact h.elim|(rename_i heq1 _;cases heq1;done)|skip
  rename_i kn n zV c heq1 heq2;simp only[jBd,and_true]at heq2;cases heq1;obtain⟨⟨g1,rfl,g3,g4⟩,h⟩:=h;have hx:=qR he x;have hy:=qR he y;rw[heq2.1]at hx;rw[heq2.2]at hy;simp only[Rel]at hx hy;obtain⟨m,rfl⟩:=Int.eq_ofNat_of_zero_le g1;simp only[jCq]at g4 h;have hzl:z.cells.toList.length=j.size:=by rw[jB5,hzs]
  have hmax:m<=maxLen:=by simp[maxLen];omega
  have hb':(j.bytes:Int)*(m:Int)<=281474976710656:=by
   have h:((j.bytes*m:Nat):Int)<=281474976710656:=by omega
   rwa[Int.natCast_mul]at h
  have hr:=run_make (P:=P) w t e j z hu hj hz kn zV m m (by omega) (jCg _) hb' (by omega);simp only[jCq]at hr;have hrf:=oU z.cells.toList j.size hzl h0 m;simp only[jDj]at hrf;have hus:(madeCells z.cells (m*j.size)).toList=(List.replicate m z.cells.toList).flatten:=by rw[<-hrf];simp[madeCells]
  have hone:∀u∈(List.replicate m z.cells.toList).flatten,one u:=fun u hu=>by simp only[jDs,jDh]at hu;obtain⟨l,⟨_,rfl⟩,hu⟩:=hu;exact jB3.1 hok u hu
  have hmp:((List.replicate m z.cells.toList).flatten).map jP=(List.replicate m (z.cells.toList.map jP)).flatten:=by rw[List.map_flatten,List.map_replicate]
  have hn:=zFY hs (cs:=(List.replicate m (z.cells.toList.map jP)).flatten) (us:=(List.replicate m z.cells.toList).flatten) e (n:=m) (sz:=j.size) hmax (by simp[hzl,hzs]) (by rw[<-hmp];exact dB _) hone;rw[<-hus,jDj]at hn;refine yO hnd (v:=.slice (some ⟨w.heap.size,0,none⟩) m m) ?_ (hK _ _ _ _ _ _ (qV _ _) ((he.mono hn.step.hle hn.lle).put hd ?_) hn h)
  .unfold execOp;simp only[ho];refine qS ?_;rw[hx,hy];exact hr
  .simp only[Rel];exact⟨rfl,⟨some w.heap.size,m,m,true⟩,by rw[<-hs.len];simp,rfl,jA _,fun _=>rfl⟩
 |mcvt s d x k ho hs' hd' =>
  simp only[wpO,jAd,jBm]at h;unfold eL at h;split at h<;>first|exact h.elim|(rename_i heq1 _;cases heq1;done)|skip
  rename_i k' kn n heq1 heq2;simp only[jBd,and_true]at heq2;cases heq1;have hx:=qR he x;rw[heq2]at hx;simp only[Rel]at hx;have hkk:P.intKind d=k:=by unfold Program.intKind;rw[hd']
  have hr:=run_convert_int (P:=P) w s d kn n hs' (by rw[hkk];exact hd');rw[hkk]at hr;refine yO hnd (v:=.int k (k.wrap n)) (w':=w) ?_ (hK _ _ _ _ _ _ (qV _ _) (he.put hd (by simp[Rel])) (Nxt.refl hs) h);unfold execOp;simp only[ho];refine qS ?_;rw[hx];exact hr
 |mstr s d e x ho hs' he' hd' =>
  have key:∀n cs xs,vW cs=some xs->xs.length=n->n≠0->Rel H L (.sl n cs) (a.eval x)->(convert s d (a.eval x)).run P w=.ok (.string (strOfNums xs)) w:=by
   intro n cs xs hl hn hn0 hx;simp only[Rel]at hx;obtain⟨ad,cap,hv,_,_,hx⟩:=hx;rcases hx with ⟨h0,_⟩|⟨b,o',us,rfl,hr,_,hat⟩
   .exact(hn0 h0).elim
   .rw[hv];refine run_convert_bytes_arg w s e hs' he' b o' n cap xs hn (fun i hi=>?_) d hd';obtain⟨v,q1,q2⟩:=hr.get (zHM hl (i:=i) (by omega));simp only[Rel]at q2;subst q2;have:=hs.pers _ _ _ (hat i _ q1);rw[this]
  simp only[wpO,jAd,jBm]at h;unfold eL at h;split at h<;>first|exact h.elim|(rename_i heq1 _;cases heq1;done)|skip
  all_goals
   rename_i n cs heq1 heq2;simp only[jBd,and_true]at heq2;split at h<;>try(exact h.elim)
   rename_i xs hl;obtain⟨⟨g1,g2⟩,h⟩:=h;have hx:=qR he x;rw[heq2]at hx;have hx':Rel H L (.sl n cs) (a.eval x):=by first|exact hx|exact zNj hx
   refine yO hnd (v:=.string (strOfNums xs)) (w':=w) ?_ (hK _ _ _ _ _ _ (qV _ _) (he.put hd (by simp[Rel])) (Nxt.refl hs) h);unfold execOp;simp only[ho];exact qS (key n cs xs hl g1 g2 hx')
 |pan x ho =>
  simp only[wpO]at h;split at h
  .rename_i t v hv;have hx:=qR he x;rw[hv]at hx;simp only[Rel]at hx;refine⟨fun _ _=>trivial,?_⟩;rw[Oper.semAt_eq _ _ _ hnd];have hrun:(execOp a.eval o).run P w=.halt (.panic (.iface t v)) w:=by unfold execOp;simp[ho,hx,Instr.panic,goPanic]
   rw[hrun];exact hQ _ _ _ _ _ (Nxt.refl hs) h
  .exact h.elim
 |pure k hk hd' =>
  cases k<;>simp only[fY]at hk<;>try(cases hk;done)
  case len d str x =>
   cases str
   .simp only[wpO]at h;split at h
    .rename_i n cs hxe;have hx:=qR he x;rw[hxe]at hx;simp only[Rel]at hx;obtain⟨_,_,_,g1,g2,_⟩:=hx;exact pure True _ (by simp only[zW,hxe]) trivial (h (by omega))
    .rename_i n cs hxe;have hx:=qR he x;rw[hxe]at hx;simp only[Rel]at hx;obtain⟨_,_,g1,_⟩:=hx;exact pure True _ (by simp only[zW,hxe]) trivial (h g1)
    .exact pureM h
   .exact pureM h
  all_goals exact pureM h
theorem zMd{n:Nat}{parts:Array (Nat×Operand)}{z:Value}{ps:List (Nat×Nat×Operand)}(ho:o.op=.buildSlice t n parts)(hu:P.underlying t=some (.slice e))(hj:P.info? e=some j)
 (hz:j.zero=some z)(hn:n*j.size<=4096)(h0:0<j.size)(hok:aY z.cells.toList=true)(hzs:z.cells.size=j.size)(hps:nQ (fun i=>some (i*j.size,j.size)) parts.toList=some ps)(he:qL H L N env a.tmps)
 (hcs:fO (((List.replicate n z.cells.toList).flatten).map jP) (ps.map fun(o,s,x)=>(o,s,ev env x))=some cs) :
 ∃us:wM,(execOp a.eval o).run P w=.ok (.value (.slice (some ⟨w.heap.size,0,none⟩) n n)) (w.alloc (.cells us.toArray e))/\qE H L cs us/\∀u∈us,one u:=by
 have hzl:z.cells.toList.length=j.size:=by rw[jB5,hzs]
 have hj0:0<j.size:=h0;have hrf:=oU z.cells.toList j.size hzl hj0 n;simp only[jDj]at hrf;have harr:((Array.range (n*j.size)).map fun i=>z.cells[i % z.cells.size]!).toList=(List.replicate n z.cells.toList).flatten:=by rw[<-hrf];simp
 have hone:∀u∈(List.replicate n z.cells.toList).flatten,one u:=fun u hu=>by simp only[jDs,jDh]at hu;obtain⟨l,⟨_,rfl⟩,hu⟩:=hu;exact jB3.1 hok u hu
 obtain⟨arr,k1,k2,k3⟩:=zBO he (fun i=>some (i*j.size,j.size)) parts.toList ps _ ((Array.range (n*j.size)).map fun i=>z.cells[i % z.cells.size]!) cs hps hcs
  (by rw[harr];exact dB _) (by rw[harr];exact hone)
 refine⟨arr.toList,?_,k2,k3⟩;unfold execOp;simp only[ho];refine qS ?_;have hmap:(parts.map fun(i,x)=>(i,a.eval x)).toList=parts.toList.map fun(i,x)=>(i,a.eval x):=by simp
 have hb:¬(n*j.size > 2 ^ 24):=by omega
 unfold Instr.buildSlice;simp only[Sem.run_bind,run_underlying hu,Result.andThen_ok,yM hj,if_neg hb];by_cases hb0:n*j.size=0
 .have hz0:((Array.range (n*j.size)).map fun i=>(#[]:Array Value)[i % (#[]:Array Value).size]!)=(Array.range (n*j.size)).map fun i=>z.cells[i % z.cells.size]! := by rw[hb0];simp
  simp only[if_pos hb0,Sem.run_bind,Sem.run_pure,Result.andThen_ok,hmap];rw[hz0,k1];simp[newRow]
 .simp only[if_neg hb0,Sem.run_bind,Sem.run_pure,Result.andThen_ok,zeroValue,typeInfo,run_program,hj,hz,hmap];rw[k1];simp[newRow]
theorem zBN:∀{ps:List (Nat×Nat×A)} {zs cs:wF},fO zs ps=some cs->cs.length=zs.length
 |[],zs,cs,h=>by simp only[fO,jA3]at h;rw[h]
 |(off,size,x)::rest,zs,cs,h=>by
  simp only[fO]at h;split at h<;>try(cases h;done)
  split at h<;>try(cases h;done)
  rename_i l _ hb;rw[zBN h];simp only[jA4,jAv,jCk];omega
theorem zV1(hs:RelSt H L U w){q:Nat}(hq : U[q]?=some .rsv)(e:TypeId)(hr:qE H L cs us)(h1:∀u∈us,one u) :
 Nxt H L w H (L.set q (⟨some w.heap.size,0,0,false⟩:LI)) (U.set q (.box cs)) (w.alloc (.cells us.toArray e)):=by
 have hqlt:q<L.length:=by rw[hs.len];exact(jA5.1 hq).1
 have hL:L[q]?=some L[q]:=jA2 hqlt;have hob:=hs.obj q _ _ hL hq;simp only[qB]at hob;have hll:LLe L (L.set q (⟨some w.heap.size,0,0,false⟩:LI)):=by
  intro i l hi;by_cases hiq:i=q
  .subst hiq;rw[hL]at hi;cases hi;exact⟨_,jAo hqlt,.inr (.inr ⟨hob.1,hob.2,rfl⟩)⟩
  .exact⟨l,by rw[jAh (Ne.symm hiq)];exact hi,.inl rfl⟩
 have hget:∀{i:Nat} {l:LI},(L.set q (⟨some w.heap.size,0,0,false⟩:LI))[i]?=some l->(i≠q/\L[i]?=some l)\/(i=q/\l=⟨some w.heap.size,0,0,false⟩):=by
  intro i l h;by_cases hiq:i=q
  .subst hiq;rw[jAo hqlt]at h;exact .inr ⟨rfl,(jAy h).symm⟩
  .rw[jAh (Ne.symm hiq)]at h;exact .inl ⟨hiq,h⟩
 refine⟨⟨fun b o v hv=>?_,by simp[hs.len],fun i l o hL' hU=>?_,fun i j l l' b hi hj hb hb'=>?_,fun i l b hL' hb=>?_⟩,⟨rfl,rfl,rfl,by simp,fun k hk _=>heap_alloc_old w _ (h:=hk),HLe.refl _,fun b o v hv=>.inl hv,jA _,pI (fun k hk=>heap_alloc_old w _ (h:=hk))⟩,hll,fun b ⟨i,l,hL',hb⟩=>?_⟩
 .rw[World.cell?_alloc_lt _ _ _ (hs.h_lt hv)];exact hs.pers b o v hv
 .rcases hget hL' with ⟨hne,hL'⟩|⟨rfl,rfl⟩
  .rw[jAh (Ne.symm hne)]at hU;exact(hs.obj i l o hL' hU).carry (fun b hb=>heap_alloc_old w _ (h:=hs.lt i l b hL' hb)) (HLe.refl _) hll (fun _ _ _=>rfl)
  .rw[jAo (by rw[<-hs.len];exact hqlt)]at hU;cases hU;simp only[qB];refine⟨trivial,w.heap.size,us,e,rfl,heap_alloc_new w _,qE.mono (HLe.refl _) hll _ hr,h1,fun o=>?_⟩;cases hH:H w.heap.size o with
   |none=>rfl
   |some v=>have:=hs.h_lt hH;omega
 .rcases hget hi with ⟨hne,hi'⟩|⟨rfl,rfl⟩
  .rcases hget hj with ⟨hne',hj'⟩|⟨rfl,rfl⟩
   .exact hs.inj i j l l' b hi' hj' hb hb'
   .have:=hs.lt i l b hi' hb;simp only[jA3]at hb';omega
  .rcases hget hj with ⟨hne',hj'⟩|⟨rfl,rfl⟩
   .have:=hs.lt j l' b hj' hb';simp only[jA3]at hb;omega
   .rfl
 .rcases hget hL' with ⟨hne,hL'⟩|⟨rfl,rfl⟩
  .have:=hs.lt i l b hL' hb;simp;omega
  .simp only[jA3]at hb;simp;omega
 .rcases hget hL' with ⟨hne,hL'⟩|⟨rfl,rfl⟩
  .exact .inl ⟨i,l,hL',hb⟩
  .simp only[jA3]at hb;exact .inr (by omega)
theorem oI{ro:wD}{k:KOp}(hc:aB P o=some k.erase)(hd:∀x,o.dst=some x->x<N)(he:qL H L N env a.tmps)(hs:RelSt H L U w){K:wK}
 (h:wpO P Qp K k env U)
 (hK:∀env' U' H' L' a' w',a'.defers=a.defers->qL H' L' N env' a'.tmps->Nxt H L w H' L' U' w'->K env' U'->Kc a' w')
 (hQ:∀v U' H' L' w',Nxt H L w H' L' U' w'->Qp v env U'->Qc (.panic [{v,recovered:=false}]) a w'):o.wpIn (Wr ro) 0 P a w Kc Qc:=by
 by_cases hb:∃d e sz n z ps,k=.brow d e sz n z ps
 .obtain⟨d,e,sz,n,z,ps,rfl⟩:=hb;simp only[KOp.erase]at hc;have hnd:=aX hc;have hdst:=bI hc;simp only[KOp.dst]at hdst;subst hdst;simp only[wpO]at h;split at h
  .rename_i cs hcs;generalize hkk:KOp.bslice o.dst e sz n z ps=kk at hc;cases y3 hc<;>try(cases hkk;done)
   case bslice t e' n' parts j z' ps' ho hu hj hz hn h0 hok hzs hps =>
    simp only[KOp.bslice.injEq,true_and]at hkk;obtain⟨rfl,rfl,rfl,rfl,rfl⟩:=hkk;obtain⟨us,hrun,hr,h1⟩:=zMd (P:=P) (w:=w) ho hu hj hz hn h0 hok hzs hps he hcs;have hnn:n<=4096:=jAz (Nat.le_mul_of_pos_right n h0) hn;have hcl:cs.length=n*j.size:=by
     rw[zBN hcs];have hzl:z'.cells.toList.length=j.size:=by rw[jB5,hzs]
     simp[hzl]
    have hnx:=zFY hs e (n:=n) (sz:=j.size) (by simp only[maxLen];omega) hcl hr h1;refine yO hnd hrun (hK _ _ _ _ _ _ (qV _ _) ((he.mono (HLe.refl _) hnx.lle).put hd ?_) hnx h);simp only[Rel];exact⟨rfl,⟨some w.heap.size,n,n,true⟩,by rw[<-hs.len];simp,rfl,jA _,fun _=>rfl⟩
   case pure hk hd=>subst hkk;simp[fY]at hk
  .exact h.elim
 by_cases hbr:∃d q zs,k=.alr d q zs
 .obtain⟨d,q,zs,rfl⟩:=hbr;simp only[KOp.erase]at hc;have hnd:=aX hc;have hdst:=bI hc;simp only[KOp.dst]at hdst;subst hdst;simp only[wpO]at h;split at h
  .rename_i hq;generalize hkk:KOp.alloc o.dst zs=kk at hc;cases y3 hc<;>try(cases hkk;done)
   case alloc e i z ho hi hz hok =>
    simp only[KOp.alloc.injEq,true_and]at hkk;subst hkk;have hnx:=zV1 hs hq e (dB z.cells.toList) (fun u hu=>jB3.1 hok u hu);refine yO hnd (v:=.pointer (some ⟨w.heap.size,0,none⟩)) ?_ (hK _ _ _ _ _ _ (qV _ _) ((he.mono (HLe.refl _) hnx.lle).put hd ?_) hnx h)
    .unfold execOp;simp only[ho];refine qS ?_;simp[Instr.alloc,zeroValue,typeInfo,hi,hz,newVar,newRow]
    .simp only[Rel];exact⟨⟨some w.heap.size,0,0,false⟩,w.heap.size,by rw[jAo (by rw[hs.len];exact(jA5.1 hq).1)],rfl,rfl,rfl⟩
   case pure hk hd=>subst hkk;simp[fY]at hk
  .exact h.elim
 by_cases hbz:∃d ng x,k=.isz d ng x
 .obtain⟨d,ng,x,rfl⟩:=hbz;simp only[KOp.erase]at hc;have hnd:=aX hc;obtain⟨t,y,t',ho,hn,rfl⟩:=zGT hc;simp only[wpO]at h;have hx:=qR he x;have fin:∀(n:Nat) (ad:Option Addr) (cap:Nat),a.eval x=.slice ad n cap->(n≠0->ad.isNone=false)->K (env.put o.dst (.lit (.bool ng))) U/\(n=0->K (env.put o.dst (.lit (.bool !ng))) U)->o.wpIn (Wr ro) 0 P a w Kc Qc:=by
   intro n ad cap hv hb h;obtain⟨v,hrun,hr⟩:=zHB (H:=H) (L:=L) (w:=w) ho hn hv;refine yO hnd hrun (hK _ _ _ _ _ _ (qV _ _) (he.put hd hr) (Nxt.refl hs) ?_);cases hi:ad.isNone with
   |false=>simpa using h.1
   |true =>
    have:=h.2 (Decidable.byContradiction fun h0=>by have:=hb h0;rw[hi]at this;cases this)
    simpa using this
  obtain⟨v1,v2,v3⟩:=zVb hs hx;split at h
  .rename_i hxe;have hv:=v1 hxe;obtain⟨v,hrun,hr⟩:=zHB (H:=H) (L:=L) (w:=w) ho hn hv;refine yO hnd hrun (hK _ _ _ _ _ _ (qV _ _) (he.put hd hr) (Nxt.refl hs) ?_)
   simpa using h
  .rename_i n cs hxe;obtain⟨ad,cap,hv,hb⟩:=v2 _ _ hxe;exact fin n ad cap hv hb h
  .rename_i l n hxe;split at h
   .rename_i fz e sz m cs hU;obtain⟨rfl,h⟩:=h;obtain⟨ad,cap,hv,hb⟩:=v3 _ _ _ _ _ _ hxe hU;exact fin n ad cap hv hb h
   .exact h.elim
  .exact h.elim
 by_cases hbq:∃d e sz bytes x y,k=.apq d e sz bytes x y
 .obtain⟨d,e,sz,bytes,x,y,rfl⟩:=hbq;simp only[KOp.erase]at hc;have hnd:=aX hc;generalize hkk:KOp.app d e sz bytes x y=kk at hc;cases y3 hc<;>first
   |(cases hkk;done)
   |(subst hkk;rename_i hpk _;simp[fY]at hpk;done)
   |skip
  case app c t e' x' y' j z ho hcal ha ht hu hj hz hok hzs h0 =>
   cases hkk;simp only[wpO]at h;split at h
   .rename_i m ys l n o' k' c' hye hxe;split at h
    .rename_i e2 s n' cs hU;obtain⟨⟨p1,p2,rfl,rfl,rfl,rfl,p3,p4,p5⟩,hA,hB⟩:=h;have hxr:=qR he x;rw[hxe]at hxr;have ha':c.args = #[x,y]:=by cases hh:c.args;simp_all
     have hat':c.argTypes = #[t,t]:=by cases hh:c.argTypes;simp_all
     rcases zUd (ty:=o.type) hu hj hz hzs h0 hs hU hxr p3 (qR he y) hye p1 p2 p4 p5 with ⟨v',w',L',hrun,hnx,hr⟩|⟨v',w',L',hrun,hnx,hr⟩
     .refine yO hnd (v:=v') (w':=w') ?_ (hK _ _ _ _ _ _ (qV _ _) ((he.mono (HLe.refl _) hnx.lle).put hd hr) hnx hA);unfold execOp;simp[ho,resolve,hcal,invoke,builtin,ha',hat',hrun]
     .refine yO hnd (v:=v') (w':=w') ?_ (hK _ _ _ _ _ _ (qV _ _) ((he.mono (HLe.refl _) hnx.lle).put hd hr) hnx hB);unfold execOp;simp[ho,resolve,hcal,invoke,builtin,ha',hat',hrun]
    .exact h.elim
   .exact h.elim
 by_cases hbs:∃d x sz hx,k=.shr d x sz hx
 .obtain⟨d,x,sz,hx,rfl⟩:=hbs;simp only[KOp.erase]at hc;have hnd:=aX hc;obtain⟨t,e,i,ho,hu,hi',rfl,rfl⟩:=zA3 hc;simp only[wpO]at h;split at h
  .rename_i l n kk hh hxe hhe;split at h
   .rename_i e' s m cs hU;obtain⟨⟨rfl,rfl,h0,h1,h2⟩,h⟩:=h;have hxr:=qR he x;rw[hxe]at hxr;simp only[Rel]at hxr;obtain⟨_,li,e1,e2,e3,hv⟩:=hxr;have hob:=hs.obj l li _ e1 hU;simp only[qB]at hob;obtain⟨_,hlen,_,hob⟩:=hob;have hv:=hv hlen.symm;rcases hob with ⟨_,hz⟩|⟨b,cur,hb,_,k2,k3,_⟩
    .exact(h2 hz).elim
    .rw[hb]at hv;have hbd:jF env n (some hx)=some hh:=by simp only[jF,hhe]
     have hsb:=bS (P:=P) (w:=w) he (lo:=none) (n:=n) (cap:=li.cap) (l:=0) rfl hbd (by omega) h0 h1 (by omega);refine yO hnd (v:=.slice (some ⟨b,0,none⟩) hh.toNat li.cap) (w':=w) ?_ (hK _ _ _ _ _ _ (qV _ _) ((he.mono (HLe.refl _) (zO1 hs e1 e2 hb hU (h:=hh.toNat) (by omega)).lle).put hd ?_) (zO1 hs e1 e2 hb hU (by omega)) h)
     .unfold execOp;simp only[ho];refine qS ?_;simp[Instr.sliceAt,Instr.slice,run_underlying hu,hv,yM hi'];simp at hsb;simp[hsb,Addr.add_lit]
     .simp only[Rel];refine⟨rfl,⟨some b,li.cap,hh.toNat,true⟩,?_,rfl,jA _,fun _=>rfl⟩;rw[<-hs.len,jB9 (by simp)];simp
   .exact h.elim
  .exact h.elim
 by_cases hbw:∃d x sz lo hi,k=.rslc d x sz lo hi
 .obtain⟨d,x,sz,lo,hi,rfl⟩:=hbw;simp only[KOp.erase]at hc;have hnd:=aX hc;obtain⟨t,e,i,ho,hu,hi',rfl,rfl⟩:=zA3 hc;simp only[wpO]at h;cases hp:zW env U (.rslc o.dst x i.size lo hi)with
  |none=>rw[hp]at h;exact h.elim
  |some q =>
   obtain⟨p,r⟩:=q;rw[hp]at h;obtain⟨v,hrun,hr⟩:=zME ho hu hi' he hs hp h.1;exact yO hnd hrun (hK _ _ _ _ _ _ (qV _ _) (he.put hd hr) (Nxt.refl hs) h.2)
 .have hke:k.erase=k:=by cases k<;>first|rfl|exact(hb ⟨_,_,_,_,_,_,rfl⟩).elim|exact(hbr ⟨_,_,_,rfl⟩).elim|exact(hbw ⟨_,_,_,_,_,rfl⟩).elim|exact(hbs ⟨_,_,_,_,rfl⟩).elim|exact(hbq ⟨_,_,_,_,_,_,rfl⟩).elim|exact(hbz ⟨_,_,_,rfl⟩).elim
  rw[hke]at hc;exact zNA hc hd he hs h hK hQ
end
end Go.Abs
namespace Go.Abs
inductive Ex where
 |norm
 |exit (id:Nat)
 |ret
 |pan (v:Value)
def Ex.exit?:Ex->Exit
 | .norm=>.normal
 | .exit id=>.exit id
 | .ret=>.ret
 | .pan v=>.panic [{v,recovered:=false}]
noncomputable def wpG(P:Program) (Qp:Value->wK) (K:wK) (g:KG) (env:Env) (U:St):Prop :=
 match g.guard with
 |none=>wpO P Qp K g.op env U
 |some (s,want)=>match env s with
  | .lit (.bool b)=>uJ (b==want) (wpO P Qp K g.op) (zGx g.op.dst K) env U
  | .lit (.tuple _)=>zGx g.op.dst K env U
  |_=>False
noncomputable def lI(P:Program) (Qp:Value->wK) (K:wK):List KG->wK
 |[],env,U=>K env U
 |g::rest,env,U=>wpG P Qp (lI P Qp K rest) g env U
section
variable{P:Program}{H:Mem}{L:wO} {U:St}{w:World}{N:Nat}{env:Env}{a:Act}
def zMU(D:Nat):Deferred:={target:=.collected D,args:=#[]}
def Mk(w w':World)(dfs ds:List Deferred):Prop:=∃Ds:wA,ds=Ds.map zMU++dfs/\Ds.Nodup/\∀D∈Ds,w.heap.size<=D/\w'.heap[D]?=some (.deferred (some []))
theorem Mk.refl(w w':World)(ds:List Deferred):Mk w w' ds ds:=⟨[],rfl,by simp,by simp⟩
variable{dfs ds:List Deferred}
theorem Mk.trans{w w1 w2:World}{es:List Deferred}(h:Mk w w1 dfs ds)(hs:w.heap.size<=w1.heap.size)(hk:∀(k:Nat) d,w1.heap[k]?=some (.deferred d)->w2.heap[k]?=some (.deferred d))(h':Mk w1 w2 ds es):Mk w w2 dfs es:=by
 obtain⟨Ds,h1,h2,h3⟩:=h;obtain⟨Es,k1,k2,k3⟩:=h';refine⟨Es++Ds,by rw[k1,h1,jBa,jAq],?_,fun D hD=>?_⟩
 .rw[jD4];refine⟨k2,h2,fun x hx y hy e=>?_⟩;subst e;have:=(k3 x hx).1;have:=(jDc.1 (h3 x hy).2).1;omega
 .rcases jA6.1 hD with hD|hD
  .exact⟨jAz hs (k3 D hD).1,(k3 D hD).2⟩
  .exact⟨(h3 D hD).1,hk _ _ (h3 D hD).2⟩
def zB1(H:Mem)(L:wO)(w:World)(N:Nat)(Q:Ex->wK)(dfs:List Deferred):Exit->Act->World->Prop:=fun e a' w' =>
 ∃x env' U' H' L',e=x.exit?/\Mk w w' dfs a'.defers/\qL H' L' N env' a'.tmps/\Nxt H L w H' L' U' w'/\Q x env' U'
theorem zB1.next{H':Mem}{L':wO} {U':St}{w':World}{Q:Ex->wK}(hn:Nxt H L w H' L' U' w')(hm:Mk w w' dfs ds){e:Exit}{b:Act}{v:World}(h:zB1 H' L' w' N Q ds e b v):zB1 H L w N Q dfs e b v:=by obtain⟨x,env'',U'',H'',L'',h1,h2,h3,h4,h5⟩:=h;exact⟨x,env'',U'',H'',L'',h1,hm.trans hn.step.size h4.step.dfr h2,h3,hn.trans h4,h5⟩
variable{ops:Array Oper}
theorem nN{o:Oper}{j:Nat}{want:Bool}{s:Nat}(hg:o.guard=some (j,want))(hs:(ops[j]?).bind (·.dst)=some s)(hN:s<a.tmps.size) :
 (∀b,a.tmps.getD s undef=.bool b->Region.wanted o (yielded ops a.tmps)=decide (b=want))/\(∀t,a.tmps.getD s undef=.tuple t->Region.wanted o (yielded ops a.tmps)=false):=by
 have hget:a.tmps[s]?=some (a.tmps.getD s undef):=by simp[hN]
 constructor
 .intro b hb;simp only[Region.wanted,hg,yielded,hs,Option.bind_some,hget,hb];cases b<;>cases want<;>rfl
 .intro t ht;simp only[Region.wanted,hg,yielded,hs,Option.bind_some,hget,ht];cases want<;>rfl
theorem y9{o:Oper}{g:KG}(h:oK P N ops o=some g) :
 aB P o=some g.op/\(∀x,o.dst=some x->x<N)/\((o.guard=none/\g.guard=none)\/∃j want s,o.guard=some (j,want)/\(ops[j]?).bind (·.dst)=some s/\g.guard=some (s,want)):=by
 unfold oK at h;split at h<;>try(cases h;done)
 rename_i k hk;split at h<;>try(cases h;done)
 rename_i hd;have hd':∀x,o.dst=some x->x<N:=fun x hx=>by simpa[zWW,hx]using hd
 split at h
 .rename_i hg;cases h;exact⟨hk,hd',.inl ⟨hg,rfl⟩⟩
 .rename_i j want hg;split at h<;>try(cases h;done)
  rename_i s hs;cases h;exact⟨hk,hd',.inr ⟨j,want,s,hg,hs,rfl⟩⟩
theorem tD{j s:Nat}(hs:(ops[j]?).bind (·.dst)=some s)(hall:∀o∈ops.toList,∀x,o.dst=some x->x<N):s<N:=by
 cases ho:ops[j]? with
 |none=>rw[ho]at hs;cases hs
 |some o =>
  rw[ho]at hs;exact hall o (by rw[Array.mem_toList_iff];exact Array.mem_of_getElem? ho) s hs
def zD6(P:Program)(N:Nat)(ops:Array Oper):List Oper->List KG->Prop
 |[],gs=>gs=[]
 |o::l,gs=>∃g rest,gs=g::rest/\oK P N ops o=some g.erase/\zD6 P N ops l rest
theorem zFj{ops:Array Oper}:∀{l:List Oper} {gs:List KG},gS P N ops l=some (gs.map KG.erase)->zD6 P N ops l gs
 |[],gs,h=>by
  simp only[gS,jA3]at h;cases gs with
  |nil=>rfl
  |cons g gs=>simp at h
 |o::l,gs,h=>by
  simp only[gS]at h;split at h<;>try(cases h;done)
  rename_i g gs' hg hgs;cases gs with
  |nil=>simp at h
  |cons g' gs'' =>
   simp only[jAd,jA3,jBd]at h;obtain⟨rfl,rfl⟩:=h;exact⟨g',gs'',rfl,hg,zFj hgs⟩
theorem xR{ro:wD}{ops:Array Oper}(hall:∀o∈ops.toList,∀x,o.dst=some x->x<N){Q:Ex->wK}{dfs:List Deferred}{Qc:Exit->Act->World->Prop} :
 ∀(l:List Oper) (gs:List KG) {H:Mem} {L:wO} {U:St} {w:World} {env:Env} {a:Act},zD6 P N ops l gs->qL H L N env a.tmps->RelSt H L U w->a.defers=dfs ->
  lI P (fun v=>Q (.pan v)) (Q .norm) gs env U->(∀e b v,zB1 H L w N Q dfs e b v->Qc e b v)->wpListIn (Wr ro) 0 P ops Qc l a w
 |[],gs,H,L,U,w,env,a,hc,he,hs,hd,h,hQ=>by simp only[zD6]at hc;subst hc;exact hQ _ _ _ ⟨.norm,env,U,H,L,rfl,hd▸Mk.refl _ _ _,he,Nxt.refl hs,h⟩
 |o::l,gs,H,L,U,w,env,a,hc,he,hs,hd,h,hQ=>by
  simp only[zD6]at hc;obtain⟨g,gs',rfl,hg,hgs⟩:=hc;obtain⟨hk,hdst,hgd⟩:=y9 hg;have hkd:=bI hk;have hke:g.erase.op.dst=g.op.dst:=by show g.op.erase.dst=g.op.dst;cases g.op<;>rfl
  rw[hke]at hkd;simp only[lI]at h;have exec:wpO P (fun v=>Q (.pan v)) (lI P (fun v=>Q (.pan v)) (Q .norm) gs') g.op env U->o.wpIn (Wr ro) 0 P a w (wpListIn (Wr ro) 0 P ops Qc l) Qc:=by
   intro h;refine oI hk hdst he hs h (fun env' U' H' L' a' w' h1 h2 h3 h4=>?_) (fun v U' H' L' w' h1 h2=>?_)
   .exact xR hall l gs' hgs h2 h3.st (h1.trans hd) h4 fun e b v hp=>hQ e b v (hp.next h3 (Mk.refl _ _ _))
   .exact hQ _ _ _ ⟨.pan v,env,U',H',L',rfl,hd▸Mk.refl _ _ _,he.mono h1.step.hle h1.lle,h1,h2⟩
  have skip:lI P (fun v=>Q (.pan v)) (Q .norm) gs' (env.put g.op.dst (.lit undef)) U->wpListIn (Wr ro) 0 P ops Qc l (a.put o.dst undef) w:=by intro h;refine xR hall l gs' hgs ?_ hs ((qV _ _).trans hd) h hQ;rw[hkd];exact he.put hdst (by simp[Rel])
  unfold wpListIn;have hge:g.erase.guard=g.guard:=rfl;rw[hge]at hgd;rcases hgd with ⟨ho,hgn⟩|⟨j,want,s,ho,hsl,hgn⟩
  .simp only[wpG,hgn]at h;have hw:Region.wanted o (yielded ops a.tmps)=true:=by simp[Region.wanted,ho]
   rw[if_pos hw];exact exec h
  .simp only[wpG,hgn]at h;have hsN:=tD hsl hall;obtain⟨w1,w2⟩:=nN (a:=a) ho hsl (jCb hsN he.1);have hrel:=he.2 s;split at h
   .rename_i b hb;rw[hb]at hrel;simp only[Rel]at hrel;rw[w1 b hrel];by_cases hbw:b=want
    .simp only[hbw,decide_true,if_true];exact exec (h.1 (by simp[hbw]))
    .simp only[hbw,decide_false,jAg,if_false];exact⟨fun _ _=>trivial,skip (h.2 (by simp[hbw]))⟩
   .rename_i t ht;rw[ht]at hrel;simp only[Rel]at hrel;rw[w2 t hrel];simp only[jAg,if_false];exact⟨fun _ _=>trivial,skip h⟩
   .exact h.elim
end
end Go.Abs

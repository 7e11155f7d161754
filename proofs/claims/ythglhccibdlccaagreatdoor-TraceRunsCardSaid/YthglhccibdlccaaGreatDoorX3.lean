/-
  The laid table eval.numbers, as a statement lays it, in the world.
  Soundness of the operations that leave the state alone.
  Soundness of the operations that leave the state alone, all of them.
-/
import Derived.Test.YthglhccibdlccaaGreatDoorX1
import Derived.Test.YthglhccibdlccaaGreatDoorRows
import Derived.ProofKit
import Derived.LaidMore
import Derived.LaidOnce
import Derived.LaidHandle
import Derived.FnData
import Derived.OpenShut
import Derived.Test.YthglhccibdlccaaGreatDoorX2
set_option linter.unusedVariables false
set_option linter.unusedSimpArgs false
namespace Go.Proofs.YthglhccibdlccaaGreatDoor
open Go Go.ChangeShapes Go.WideShapes Go.ChangeAt Go.RowKit Go.Abs
abbrev zOg:List (String×DataW Unit):=[("splicery/eval.numbers",Rows.laid_splicery_eval_numbers)]
def zHU (W:World):Prop:=∀b o v,zRi b o=some v→W.cell? ⟨b,o,none⟩=some v
theorem zGe {W:World}(h:laidMetH Tryz.prog zOg W):zHU W:=by
 obtain⟨g,t,cs,fuel,p,hg,ht,hv,hd⟩:=h.funcs (n := "splicery/eval.numbers") (List.mem_cons_self ..);obtain rfl:=Option.some.inj ((show Tryz.prog.globalNamed "splicery/eval.numbers" = some 0 by kernel_rfl).symm.trans hg);obtain rfl:=Option.some.inj ((show (Tryz.prog.globals[0]?).map (·.type)=some 228 by kernel_rfl).symm.trans ht);obtain⟨xs,m,_,ex,hcl,hl,hel⟩:=DataW.trod_array (n:=5) (e:=44) Tryz.underlying228 hd;rw[show Tryz.prog.cellsOf 228=5 by kernel_rfl]at hcl;simp only[show Tryz.prog.cellsOf 44=1 by kernel_rfl,Nat.mul_one]at hel;have hc:=fun i=>World.var?_cell hg hv i
 simp only[←Array.getElem?_toList]at hc;generalize cs.toList=l at hc hel hcl hd;obtain⟨v0,l,rfl⟩:=List.exists_cons_of_length_pos (by omega:0<l.length);obtain⟨v1,l,rfl⟩:=List.exists_cons_of_length_pos (by simp at hcl; omega:0<l.length);obtain⟨v2,l,rfl⟩:=List.exists_cons_of_length_pos (by simp at hcl; omega:0<l.length);obtain⟨v3,l,rfl⟩:=List.exists_cons_of_length_pos (by simp at hcl; omega:0<l.length);obtain⟨v4,l,rfl⟩:=List.exists_cons_of_length_pos (by simp at hcl; omega:0<l.length);obtain rfl:l=[]:=by simpa using hcl
 obtain⟨x0,xs,rfl⟩:=List.exists_cons_of_length_pos (by omega:0<xs.length);obtain⟨x1,xs,rfl⟩:=List.exists_cons_of_length_pos (by simp at hl; omega:0<xs.length);obtain⟨x2,xs,rfl⟩:=List.exists_cons_of_length_pos (by simp at hl; omega:0<xs.length);obtain⟨x3,xs,rfl⟩:=List.exists_cons_of_length_pos (by simp at hl; omega:0<xs.length);obtain⟨x4,xs,rfl⟩:=List.exists_cons_of_length_pos (by simp at hl; omega:0<xs.length);obtain rfl:xs=[]:=by simpa using hl
 obtain⟨d0,q0⟩:=x0;obtain⟨d1,q1⟩:=x1;obtain⟨d2,q2⟩:=x2;obtain⟨d3,q3⟩:=x3;obtain⟨d4,q4⟩:=x4;have ex:=(Prod.mk.inj ex).1;simp only[Rows.laid_splicery_eval_numbers,DataW.funcsOut,DataW.funcsOutAll,List.map_cons,List.map_nil,DataW.agg.injEq,List.cons.injEq,and_true]at ex;obtain⟨rfl,rfl,rfl,rfl,rfl⟩:=ex;obtain rfl:=func_of_trod (f0:=199) Tryz.underlying44 (by kernel_rfl) (hel 0 (by omega));obtain rfl:=func_of_trod (f0:=201) Tryz.underlying44 (by kernel_rfl) (hel 1 (by omega));obtain rfl:=func_of_trod (f0:=202) Tryz.underlying44 (by kernel_rfl) (hel 2 (by omega));obtain rfl:=func_of_trod (f0:=203) Tryz.underlying44 (by kernel_rfl) (hel 3 (by omega));obtain rfl:=func_of_trod (f0:=204) Tryz.underlying44 (by kernel_rfl) (hel 4 (by omega));intro b o v hb;unfold zRi at hb;by_cases hb0:b=0
 ·subst hb0;rw[hc];exact hb
 ·rw[show zRh.lookup b=none by simp[zRh,List.lookup,beq_eq_false_iff_ne.2 hb0]]at hb;cases hb
end Go.Proofs.YthglhccibdlccaaGreatDoor
namespace Go.Abs
section
variable {P:Program}{H:Mem}{L:List LI} {σ : St}{w:World}{N:Nat}{env:Env}{a:Act}
theorem zKF (v:Value):Rel H L (jC v) v:=by unfold jC;split<;>simp[Rel]
theorem zAH:∀(vs:List Value),zX H L (vs.map jC) vs
 | []=>jP
 | v::vs=>qS (zKF v) (zAH vs)
theorem zFE (v:Value):Rel H L (zGl v) v:=by
 unfold zGl;split
 ·rename_i cs;split
  ·rename_i h;simp only[Rel];exact⟨cs.toList,by simp,zAH _,fun u hu=>by simp only[yY,List.all_eq_true]at h; exact h u hu⟩
  ·simp[Rel]
 ·exact zKF v
theorem zQg (v:Value):Rel H L (zMZ v) v:=by
 unfold zMZ;split
 ·simp only[Rel]; exact⟨[],[],rfl,jP,jP⟩
 ·simp[Rel]
theorem zJo:∀vs:List Value,zX H L (vs.map zMZ) vs
 | []=>jP
 | v::vs=>qS (zQg v) (zJo vs)
theorem qR (he:qI H L N env a.tmps)(x:Operand):Rel H L (ev env x) (a.eval x):=by
 cases x with
 | tmp t=>exact he.2 t
 | const v=>exact zFE v
 | global g =>
  simp only[ev];split
  ·rename_i vs hvs;split
   ·rename_i hone;simp only[Rel];refine⟨g,0,vs,rfl,zJo vs,fun u hu=>by simp only[List.all_eq_true]at hone; exact hone u hu,fun i u hi=>?_⟩;rw[Nat.zero_add];exact H.2 g i u (by simp only[zRi,hvs]; exact hi)
   ·simp[Rel]
  ·simp[Rel]
 | func f=>simp only[ev,Rel,Act.eval]; exact⟨[],[],rfl,jP,jP⟩
theorem zYc {cs:Array Value}(h:one (.agg cs)):False:=by simp[one,Value.oneCell']at h
theorem zM6 {v:Value}(h:one v):v.cells.toList=[v]:=by cases v<;>first | rfl | (exact(zYc h).elim)
theorem zFD {x:A}{v:Value}{cs:List A}(h:Rel H L x v)(hc:cellsOf x=some cs):zX H L cs v.cells.toList∧∀u∈v.cells.toList,one u:=by
 have sing:∀{x:A} {v:Value},Rel H L x v→one v→some [x]=some cs→zX H L cs v.cells.toList∧∀u∈v.cells.toList,one u:=by intro x v hx ho hs;rw[zM6 ho];cases hs;exact⟨qS hx jP,by simpa using ho⟩
 cases x<;>simp only[cellsOf]at hc<;>try (cases hc; done)
 case nil=>exact sing h (by simp only[Rel]at h; subst h; rfl) hc
 case lit u =>
  split at hc
  ·rename_i ho; exact sing h (by simp only[Rel]at h; subst h; exact ho) hc
  ·cases hc
 case agg ds =>
  simp only[Option.some.injEq]at hc;subst hc;simp only[Rel]at h;obtain⟨vs,rfl,h1,h2⟩:=h
  simpa [Value.cells] using ⟨h1,h2⟩
 case sl n ds=>exact sing h (by simp only[Rel]at h; obtain⟨_,_,rfl,_⟩:=h; rfl) hc
 case fsl n ds=>exact sing h (by simp only[Rel]at h; obtain⟨_,rfl,_⟩:=h; rfl) hc
 case ptr l o=>exact sing h (by simp only[Rel]at h; obtain⟨_,_,_,_,_,rfl⟩:=h; rfl) hc
 case rptr ds=>exact sing h (by simp only[Rel]at h; obtain⟨_,_,_,rfl,_⟩:=h; rfl) hc
 case row l n=>exact sing h (by simp only[Rel]at h; exact h.1) hc
 case rwp l n o=>exact sing h (by simp only[Rel]at h; exact h.1) hc
 case win l n o k c=>exact sing h (by simp only[Rel]at h; exact h.1) hc
 case map l=>exact sing h (by simp only[Rel]at h; obtain⟨_,_,_,_,_,rfl⟩:=h; rfl) hc
 case clo f fs cs'=>exact sing h (by simp only[Rel]at h; obtain⟨_,_,rfl,_⟩:=h; rfl) hc
theorem zDu {t:TypeId}{u:TypeDesc}(hu:P.underlying t=some u):(isAgg t).run P w=.ok (zHd u) w:=by unfold isAgg;rw[Sem.run_bind,run_underlying hu,Result.andThen_ok];cases u<;>rfl
theorem yE {t:TypeId}{i:TypeInfo}(hi:P.info? t=some i):(sizeOf t).run P w=.ok i.size w:=by simp[sizeOf,typeInfo,hi]
theorem zJr {t:TypeId}{u:TypeDesc}{i:TypeInfo}(hu:P.underlying t=some u)(hi:P.info? t=some i){b o:Nat}{us:List Value}
 (hc:∀j v,us[j]?=some v→w.cell? ⟨b,o+j,none⟩=some v)(hl:us.length=i.size){r:A}{cs:List A}(hr:zX H L cs us)(h1:∀u∈us,one u)
 (hp:zBq (zHd u) cs=some r):∃v,(loadVar t ⟨b,o,none⟩).run P w=.ok v w∧Rel H L r v:=by
 unfold loadVar;rw[Sem.run_bind,zDu hu,Result.andThen_ok];cases hag:zHd u with
 | true =>
  rw[hag]at hp;simp only[zBq,Option.some.injEq]at hp;subst hp;refine⟨.agg us.toArray,?_,?_⟩
  ·simp only[if_true,Sem.run_bind,yE hi,Result.andThen_ok,←hl];rw[run_loadCells_list w ⟨b,o,none⟩ us (fun j v hv=>by rw[Addr.add_lit]; exact hc j v hv)];rfl
  ·simp only[Rel]; exact⟨us,rfl,hr,h1⟩
 | false =>
  rw[hag]at hp;cases cs with
  | nil=>simp[zBq]at hp
  | cons c cs =>
   cases cs with
   | cons c' cs=>simp[zBq]at hp
   | nil =>
    simp only[zBq,Option.some.injEq]at hp;subst hp;obtain⟨u',us',rfl,h2,h3⟩:=qA hr;have h4:=jI h3;subst h4;refine⟨u',?_,h2⟩;have:=hc 0 u' (by simp);simp only[Nat.add_zero]at this;simp[this]
theorem zJB {cs cs':List A}{us:List Value}{off n:Nat}(h:sub cs off n=some cs')(hr:zX H L cs us) :
 zX H L cs' ((us.drop off).take n)∧((us.drop off).take n).length=n:=by
 unfold sub at h;split at h
 ·cases h;refine⟨(hr.drop off).take n,?_⟩;have:=hr.length;simp only[List.length_take,List.length_drop];omega
 ·cases h
theorem zCG {α : Type}{us:List α}{off n j:Nat}{v : α}(h:((us.drop off).take n)[j]?=some v):us[off+j]?=some v:=by
 rw[List.getElem?_take]at h;split at h
 ·rwa [List.getElem?_drop]at h
 ·cases h
theorem zAM {α : Type}{us:List α}{off n:Nat}{p : α→Prop}(h:∀u∈us,p u):∀u∈(us.drop off).take n,p u :=
 fun u hu=>h u (List.mem_of_mem_drop (List.mem_of_mem_take hu))
theorem zMb (hs:RelSt H L σ w){x:A}{v:Value}{n:Nat}{cs:List A}(hx:Rel H L x v)(hl:ldA σ n x=some cs) :
 ∃b o,∃us:List Value,v=.pointer (some ⟨b,o,none⟩)∧zX H L cs us∧us.length=n∧(∀u∈us,one u)∧∀j u,us[j]?=some u→w.cell? ⟨b,o+j,none⟩=some u:=by
 cases x<;>simp only[ldA]at hl<;>try (cases hl; done)
 case rptr ds =>
  simp only[Rel]at hx;obtain⟨b,o,us,rfl,h1,h2,h3⟩:=hx;obtain⟨h4,h5⟩:=zJB hl h1;refine⟨b,o,_,rfl,h4,h5,zAM h2,fun j u hu=>?_⟩;have:=zCG hu;simp only[Nat.zero_add]at this;exact hs.pers _ _ _ (h3 j u this)
 case ptr l off =>
  simp only[Rel]at hx;obtain⟨li,b,e1,e2,e3,rfl⟩:=hx;split at hl<;>try (cases hl; done)
  rename_i ds hds;have ho:=hs.obj l li _ e1 hds;simp only[zW]at ho;obtain⟨_,b',vs,e,hb',hh,hr,h1,_⟩:=ho;rw[e2]at hb';cases hb';obtain⟨h4,h5⟩:=zJB hl hr;refine⟨b,off,_,rfl,h4,h5,zAM h1,fun j u hu=>?_⟩;rw[cell_of_row w b _ _ _ _ hh]
  simpa using zCG hu
 case rwp l m off =>
  simp only[Rel]at hx;obtain⟨_,li,e1,e2,e3,e4⟩:=hx;split at hl<;>try (cases hl; done)
  rename_i fz e sz k ds hds;split at hl<;>try (cases hl; done)
  rename_i hk;subst hk;have ho:=hs.obj l li _ e1 hds;simp only[zW]at ho;obtain⟨_,hlen,_,ho⟩:=ho;obtain⟨b,hb,rfl⟩:=e4 hlen.symm;rcases ho with ⟨h0,_⟩ | ⟨b',cur,hb',hh,_,_,_,hr,h1,_⟩
  ·rw[hb]at h0; cases h0
  ·rw[hb]at hb';cases hb';obtain⟨h4,h5⟩:=zJB hl hr;refine⟨b,off,_,rfl,h4,h5,zAM h1,fun j u hu=>?_⟩;rw[cell_of_row w b _ _ _ _ hh];have:=zCG hu;rw[List.getElem?_take]at this;split at this
   ·simpa using this
   ·cases this
end
end Go.Abs
namespace Go.Abs
section
variable {P:Program}{H:Mem}{L:List LI} {σ : St}{w:World}{N:Nat}{env:Env}{a:Act}
def zAl (P:Program)(H:Mem)(L:List LI)(w:World)(a:Act)(o:Oper)(r:A):Prop :=
 ∃v,(execOp a.eval o).run P w=.ok (.value v) w∧Rel H L r v
theorem qQ {s:Sem Value}{v:Value}{w':World}(h:s.run P w=.ok v w'):(do pure (Next.value (←s)):Sem Next).run P w=.ok (.value v) w':=by simp[h]
theorem zVd {o:Oper}{t:TypeId}{x:Operand}{u:TypeDesc}{i:TypeInfo}(ho:o.op=.load t x)(hu:P.underlying t=some u)(hi:P.info? t=some i)
 (he:qI H L N env a.tmps)(hs:RelSt H L σ w){r:A}(h:((ldA σ i.size (ev env x)).bind (zBq (zHd u)))=some r):zAl P H L w a o r:=by
 rw[Option.bind_eq_some_iff]at h;obtain⟨cs,h1,h2⟩:=h;obtain⟨b,off,us,hv,hr,hl,ho1,hc⟩:=zMb hs (qR he x) h1;obtain⟨v,hrun,hrel⟩:=zJr (w:=w) hu hi hc hl hr ho1 h2;refine⟨v,?_,hrel⟩;unfold execOp;simp only[ho];exact qQ (by simp[Instr.loadAt,hv,Instr.sureAddr,hrun])
theorem zLU {o:Oper}{x:Operand}(ho:o.op=.move x∨o.op=.assign x)(he:qI H L N env a.tmps):zAl P H L w a o (ev env x):=by refine⟨a.eval x,?_,qR he x⟩;unfold execOp;rcases ho with ho | ho<;>simp[ho]
theorem zPI {o:Oper}{c x y:Operand}{t:Bool}(ho:o.op=.pick c x y)(he:qI H L N env a.tmps)(hc:ev env c=.lit (.bool t)) :
 zAl P H L w a o (if t then ev env x else ev env y):=by
 have h:=qR he c;rw[hc]at h;simp only[Rel]at h;refine⟨if t then a.eval x else a.eval y,?_,?_⟩
 ·unfold execOp;simp[ho,h,asBool]
 ·cases t
  ·exact qR he y
  ·exact qR he x
theorem zPF {o:Oper}{s:TypeId}{x:Operand}{f:Nat}{fs:Array Field}{g:Field}{i:TypeInfo}(ho:o.op=.fieldAddr s x f)
 (hu:P.underlying s=some (.struct fs))(hg:fs[f]?=some g)(hi:P.info? g.type=some i)(h0:i.size≠0)(he:qI H L N env a.tmps)(hs:RelSt H L σ w){r:A}{p:Prop}
 (h:zO env σ (.addr o.dst x g.offset)=some (p,r)):zAl P H L w a o r:=by
 have hx:=qR he x;have fin:∀b off,a.eval x=.pointer (some ⟨b,off,none⟩)→Rel H L r (.pointer (some ⟨b,off+g.offset,none⟩))→zAl P H L w a o r:=by intro b off hv hr;refine⟨_,?_,hr⟩;unfold execOp;simp only[ho];refine qQ ?_;simp[Instr.fieldAt,run_underlying hu,hg,hv,Instr.sureAddr,fieldPlace,yE hi,h0,Addr.add_lit]
 simp only[zO]at h;split at h<;>try (cases h; done)
 ·rename_i l off hxe;cases h;rw[hxe]at hx;simp only[Rel]at hx;obtain⟨li,b,e1,e2,e3,hv⟩:=hx;exact fin b off hv (by simp only[Rel]; exact⟨li,b,e1,e2,e3,rfl⟩)
 ·rename_i cs hxe;cases h;rw[hxe]at hx;simp only[Rel]at hx;obtain⟨b,off,us,hv,h1,h2,h3⟩:=hx;exact fin b off hv (by simp only[Rel]; exact⟨b,off+g.offset,us.drop g.offset,rfl,h1.drop _,fun u hu=>h2 u (List.mem_of_mem_drop hu),h3.drop _⟩)
 ·rename_i l n off hxe;rw[hxe]at hx;simp only[Rel]at hx;obtain⟨ho1,li,e1,e2,e3,hv⟩:=hx;split at h<;>try (cases h; done)
  rename_i fz e sz m ds hds;split at h<;>try (cases h; done)
  rename_i hn;cases h;have hob:=hs.obj l li _ e1 hds;simp only[zW]at hob;obtain⟨b,hb,hv⟩:=hv (by rw[hn,hob.2.1]);exact fin b off hv (by simp only[Rel]; exact⟨rfl,li,e1,e2,e3,fun _=>⟨b,hb,rfl⟩⟩)
theorem zDC (k:IntKind)(j:Int):(asIntOf (.int k j)).run P w=.ok (k,j) w:=rfl
theorem zSq {o:Oper}{t e:TypeId}{x i:Operand}{ti:TypeInfo}(ho:o.op=.indexAddr t x i)
 (hu:P.underlying t=some (.slice e))(hi:P.info? e=some ti)(he:qI H L N env a.tmps)(hs:RelSt H L σ w){r:A}{p:Prop}
 (h:zO env σ (.idx o.dst x i ti.size)=some (p,r))(hp:p):zAl P H L w a o r:=by
 have hx:=qR he x;have hy:=qR he i;have fin:∀b off n cap (k:IntKind) (j:Int),a.eval x=.slice (some ⟨b,off,none⟩) n cap→a.eval i=.int k j→0≤j→j<n →
  Rel H L r (.pointer (some ⟨b,off+j.toNat*ti.size,none⟩))→zAl P H L w a o r:=by
  intro b off n cap k j hv hj h0 h1 hr;refine⟨_,?_,hr⟩;unfold execOp;simp only[ho];refine qQ ?_;simp[Instr.indexAt,run_underlying hu,hv,hj,zDC,yE hi,Addr.add_lit,h0,h1]
 simp only[zO]at h;split at h<;>try (cases h; done)
 ·rename_i n cs k j hxe hye;cases h;rw[hxe]at hx;rw[hye]at hy;simp only[Rel]at hx hy;obtain⟨ad,cap,hv,h1,h2,h3⟩:=hx;obtain⟨⟨h4,h5⟩,h6⟩:=hp;rcases h3 with ⟨rfl,rfl⟩ | ⟨b,off,us,rfl,g1,g2,g3⟩
  ·simp at h6
  ·exact fin b off n cap k j hv hy h4 h5 (by simp only[Rel]; exact⟨b,_,us.drop _,rfl,g1.drop _,fun u hu=>g2 u (List.mem_of_mem_drop hu),g3.drop _⟩)
 ·rename_i n cs k j hxe hye;cases h;rw[hxe]at hx;rw[hye]at hy;simp only[Rel]at hx hy;obtain⟨ad,hv,h2,h3⟩:=hx;obtain⟨⟨h4,h5⟩,h6⟩:=hp;rcases h3 with ⟨rfl,rfl⟩ | ⟨b,off,us,rfl,g1,g2,g3⟩
  ·simp at h6
  ·exact fin b off n n k j hv hy h4 h5 (by simp only[Rel]; exact⟨b,_,us.drop _,rfl,g1.drop _,fun u hu=>g2 u (List.mem_of_mem_drop hu),g3.drop _⟩)
 ·rename_i l n k j hxe hye;split at h<;>try (cases h; done)
  rename_i fz e' sz m ds hds;split at h<;>try (cases h; done)
  rename_i hn;obtain⟨hn,rfl⟩:=hn;cases h;rw[hxe]at hx;rw[hye]at hy;simp only[Rel]at hx hy;obtain⟨ho1,li,e1,e2,e3,hv⟩:=hx;have hob:=hs.obj l li _ e1 hds;simp only[zW]at hob;obtain⟨_,hlen,_,hob⟩:=hob;have hv:=hv (by rw[hn,hlen]);rcases hob with ⟨_,h0⟩ | ⟨b,cur,hb,_⟩
  ·exfalso; have:=hp.1; have:=hp.2; omega
  ·rw[hb]at hv;simp only at hv;have:=fin b 0 n li.cap k j hv hy hp.1 hp.2 (by simp only[Rel]; exact⟨rfl,li,e1,e2,e3,fun _=>⟨b,hb,by simp⟩⟩);exact this
 ·rename_i l n off k' _ k j hxe hye;split at h<;>try (cases h; done)
  rename_i fz e' sz m ds hds;split at h<;>try (cases h; done)
  rename_i hn;obtain⟨hn,rfl⟩:=hn;cases h;rw[hxe]at hx;rw[hye]at hy;simp only[Rel]at hx hy;obtain⟨ho1,li,e1,e2,e3,hv⟩:=hx;have hob:=hs.obj l li _ e1 hds;simp only[zW]at hob;obtain⟨_,hlen,_,hob⟩:=hob;obtain⟨_,ad,cap,hv,_,_,g3⟩:=hv (by rw[hn,hlen]);rcases g3 with g3 | ⟨b,hb,rfl⟩
  ·exfalso; have:=hp.1; have:=hp.2; omega
  ·exact fin b off k' cap k j hv hy hp.1 hp.2 (by simp only[Rel]; exact⟨rfl,li,e1,e2,e3,fun _=>⟨b,hb,rfl⟩⟩)
theorem zMJ {o:Oper}{t e:TypeId}{x i:Operand}{ti:TypeInfo}{n:Nat}(ho:o.op=.indexAddr t x i)
 (hu:P.underlying t=some (.array n e))(hi:P.info? e=some ti)(he:qI H L N env a.tmps){r:A}{p:Prop}
 (h:zO env σ (.idxarr o.dst x i n ti.size)=some (p,r))(hp:p):zAl P H L w a o r:=by
 have hx:=qR he x;have hy:=qR he i;simp only[zO]at h;split at h<;>try (cases h; done)
 rotate_left
 ·rename_i cs k j hxe hye;cases h;rw[hxe]at hx;rw[hye]at hy;simp only[Rel]at hx hy;obtain⟨b,off,us,hv,g1,g2,g3⟩:=hx;refine⟨.pointer (some ⟨b,off+j.toNat*ti.size,none⟩),?_,by simp only[Rel]; exact⟨b,_,_,rfl,g1.drop _,fun u hu=>g2 u (List.mem_of_mem_drop hu),g3.drop _⟩⟩;unfold execOp;simp only[ho];refine qQ ?_;simp[Instr.indexAt,Instr.sureAddr,run_underlying hu,hv,hy,zDC,yE hi,Addr.add_lit,hp.1.1,hp.1.2]
 rename_i l off k j hxe hye;cases h;rw[hxe]at hx;rw[hye]at hy;simp only[Rel]at hx hy;obtain⟨li,b,e1,e2,e3,hv⟩:=hx;refine⟨.pointer (some ⟨b,off+j.toNat*ti.size,none⟩),?_,by simp only[Rel]; exact⟨li,b,e1,e2,e3,rfl⟩⟩;unfold execOp;simp only[ho];refine qQ ?_;simp[Instr.indexAt,Instr.sureAddr,run_underlying hu,hv,hy,zDC,yE hi,Addr.add_lit,hp.1,hp.2]
theorem zOH {t:TypeId}{u:TypeDesc}{i:TypeInfo}(hu:P.underlying t=some u)(hi:P.info? t=some i){vs:List Value}{cs:List A}(hr:zX H L cs vs)(h1:∀x∈vs,one x)
 {off:Nat}{r:A}(h:(sub cs off i.size).bind (zBq (zHd u))=some r):∃v,(part t vs.toArray off).run P w=.ok v w∧Rel H L r v:=by
 rw[Option.bind_eq_some_iff]at h;obtain⟨ds,g1,g2⟩:=h;obtain⟨g3,g4⟩:=zJB g1 hr;unfold part;rw[Sem.run_bind,zDu hu,Result.andThen_ok];cases hag:zHd u with
 | true =>
  rw[hag]at g2;simp only[zBq,Option.some.injEq]at g2;subst g2;refine⟨.agg ((vs.drop off).take i.size).toArray,?_,by simp only[Rel]; exact⟨_,rfl,g3,zAM h1⟩⟩;simp only[if_true,Sem.run_bind,yE hi,Result.andThen_ok,Sem.run_pure]
  congr 2
  apply Array.ext';simp[List.extract_eq_take_drop]
 | false =>
  rw[hag]at g2;cases ds with
  | nil=>simp[zBq]at g2
  | cons c ds =>
   cases ds with
   | cons c' ds=>simp[zBq]at g2
   | nil =>
    simp only[zBq,Option.some.injEq]at g2;subst g2;obtain⟨v,us,e,k1,k2⟩:=qA g3;have hv:vs[off]?=some v:=by
     have:((vs.drop off).take i.size)[0]?=some v:=by rw[e]; rfl
     simpa using zCG this
    refine⟨v,?_,k1⟩;simp[hv]
theorem zSp {o:Oper}{t:TypeId}{x:Operand}{f:Nat}{fs:Array Field}{g:Field}{u:TypeDesc}{i:TypeInfo}(ho:o.op=.field t x f)
 (hut:P.underlying t=some (.struct fs))(hg:fs[f]?=some g)(hu:P.underlying g.type=some u)(hi:P.info? g.type=some i)(he:qI H L N env a.tmps){r:A}{p:Prop}
 (h:zO env σ (.fld o.dst x g.offset i.size (zHd u))=some (p,r)):zAl P H L w a o r:=by
 have hx:=qR he x;simp only[zO]at h;split at h<;>try (cases h; done)
 rename_i cs hxe;rw[hxe]at hx;simp only[Rel]at hx;obtain⟨vs,hv,h1,h2⟩:=hx;simp only[Option.map_eq_some_iff,Prod.mk.injEq]at h;obtain⟨r',h3,_,rfl⟩:=h;obtain⟨v,hrun,hrel⟩:=zOH (w:=w) hu hi h1 h2 h3;refine⟨v,?_,hrel⟩;unfold execOp;simp only[ho];refine qQ ?_;simp[Instr.field,run_underlying hut,hg,hv,asAgg,hrun]
theorem zVc {o:Oper}{t e:TypeId}{x y:Operand}{n:Nat}{u:TypeDesc}{i:TypeInfo}(ho:o.op=.index t x y)
 (hut:P.underlying t=some (.array n e))(hu:P.underlying e=some u)(hi:P.info? e=some i)(he:qI H L N env a.tmps){r:A}{p:Prop}
 (h:zO env σ (.ix o.dst x y n i.size (zHd u))=some (p,r))(hp:p):zAl P H L w a o r:=by
 have hx:=qR he x;have hy:=qR he y;simp only[zO]at h;split at h<;>try (cases h; done)
 rename_i cs k j hxe hye;rw[hxe]at hx;rw[hye]at hy;simp only[Rel]at hx hy;obtain⟨vs,hv,h1,h2⟩:=hx;simp only[Option.map_eq_some_iff,Prod.mk.injEq]at h;obtain⟨r',h3,rfl,rfl⟩:=h;obtain⟨v,hrun,hrel⟩:=zOH (w:=w) hu hi h1 h2 h3;refine⟨v,?_,hrel⟩;unfold execOp;simp only[ho];refine qQ ?_;simp[Instr.index,run_underlying hut,hv,hy,zDC,hp.1,hp.2,yE hi,hrun]
theorem zF0 (op:BinOp)(t:TypeId)(x y:Operand)(k k':IntKind)(m n:Int):(eqGuard op t x y (.int k m) (.int k' n)).run P w=.ok () w:=by unfold eqGuard;cases op<;>rfl
theorem zSm {o:Oper}{op:BinOp}{t t':TypeId}{x y:Operand}(ho:o.op=.binOp op t x y t')(he:qI H L N env a.tmps){r:A}{p:Prop}
 (h:zO env σ (.bin o.dst op x y)=some (p,r))(hp:p):zAl P H L w a o r:=by
 have hx:=qR he x;have hy:=qR he y;simp only[zO]at h;split at h<;>try (cases h; done)
 case h_2 sa sb hxe hye =>
  rw[hxe]at hx;rw[hye]at hy;simp only[Rel]at hx hy;cases op<;>simp only[zWf]at h<;>try (cases h; done)
  simp only[Option.some.injEq,Prod.mk.injEq]at h;obtain⟨rfl,rfl⟩:=h;refine⟨.string (sa++sb),?_,by simp[Rel]⟩;unfold execOp;simp only[ho];refine qQ ?_;have e2:IntKind.i64.max=9223372036854775807:=by decide
  have hle:¬((sa.size+sb.size:Nat):Int) > IntKind.i64.max:=by rw[e2]; omega
  rw[hx,hy];simp only[eqGuard,binOp,Op.stringOp];rw[if_neg hle];rfl
 rename_i k m k' n hxe hye;split at h<;>try (cases h; done)
 rename_i hk;subst hk;rw[hxe]at hx;rw[hye]at hy;simp only[Rel]at hx hy;have fin:∀v,(binOp op t (.int k m) (.int k n)).run P w=.ok v w→Rel H L r v→zAl P H L w a o r:=by intro v hr hrel;refine⟨v,?_,hrel⟩;unfold execOp;simp only[ho];refine qQ ?_;rw[Sem.run_bind,hx,hy,zF0,Result.andThen_ok,hr]
 cases op<;>simp only[zDK]at h<;>try (cases h; done)
 all_goals (simp only[Option.some.injEq,Prod.mk.injEq]at h; obtain⟨hpp,hrr⟩:=h; subst hrr; subst hpp)
 case h_1.isTrue.add=>exact fin (.int k (k.wrap (m+n))) (by simp[binOp,Op.intArith]) (by simp[Rel])
 case h_1.isTrue.sub=>exact fin (.int k (k.wrap (m-n))) (by simp[binOp,Op.intArith]) (by simp[Rel])
 case h_1.isTrue.mul=>exact fin (.int k (k.wrap (m*n))) (by simp[binOp,Op.intArith]) (by simp[Rel])
 case h_1.isTrue.quo=>exact fin (.int k (k.wrap (m.tdiv n))) (by simp[binOp,Op.intDiv,hp]) (by simp[Rel])
 case h_1.isTrue.rem=>exact fin (.int k (m.tmod n)) (by simp[binOp,Op.intDiv,hp]) (by simp[Rel])
 case h_1.isTrue.lss=>exact fin (.bool (decide (m<n))) (by simp[binOp,Op.intCmp]) (by simp[Rel])
 case h_1.isTrue.leq=>exact fin (.bool (decide (m≤n))) (by simp[binOp,Op.intCmp]) (by simp[Rel])
 case h_1.isTrue.gtr=>exact fin (.bool (decide (n<m))) (by simp[binOp,Op.intCmp]) (by simp[Rel])
 case h_1.isTrue.geq=>exact fin (.bool (decide (n≤m))) (by simp[binOp,Op.intCmp]) (by simp[Rel])
theorem zSs {o:Oper}{t:TypeId}{x:Operand}{u:TypeDesc}(ho:o.op=.makeInterface t x)(hu:P.underlying t=some u)(hn:∀ms,u≠.interface ms)(he:qI H L N env a.tmps){r:A}{p:Prop}
 (h:zO env σ (.mki o.dst t x)=some (p,r)):zAl P H L w a o r:=by
 have hx:=qR he x;simp only[zO,Option.some.injEq,Prod.mk.injEq]at h;obtain⟨_,rfl⟩:=h;refine⟨.iface t (a.eval x),?_,?_⟩
 ·unfold execOp;simp only[ho];refine qQ ?_;simp only[Instr.makeInterface,Sem.run_bind,run_underlying hu,Result.andThen_ok];cases u<;>first | rfl | exact(hn _ rfl).elim
 ·split
  ·rename_i v hv;rw[hv]at hx;simp only[Rel]at hx;simp[Rel,hx]
  ·simp[Rel]
theorem zSt {o:Oper}{t:TypeId}{x:Operand}(ho:o.op=.unOp .neg t x)(he:qI H L N env a.tmps){r:A}{p:Prop}
 (h:zO env σ (.neg o.dst x)=some (p,r)):zAl P H L w a o r:=by
 have hx:=qR he x;simp only[zO]at h;split at h<;>try (cases h; done)
 rename_i k m hxe;cases h;rw[hxe]at hx;simp only[Rel]at hx;refine⟨.int k (k.wrap (0-m)),?_,by simp[Rel]⟩;unfold execOp;simp[ho,hx,Op.unary,Op.intArith]
theorem zSu {o:Oper}{t:TypeId}{x:Operand}(ho:o.op=.unOp .not t x)(he:qI H L N env a.tmps){r:A}{p:Prop}
 (h:zO env σ (.not o.dst x)=some (p,r)):zAl P H L w a o r:=by
 have hx:=qR he x;simp only[zO]at h;split at h<;>try (cases h; done)
 rename_i b hxe;cases h;rw[hxe]at hx;simp only[Rel]at hx;refine⟨.bool !b,?_,by simp[Rel]⟩;unfold execOp;simp[ho,hx,Op.unary]
theorem zSo {o:Oper}{x:Operand}{i:Nat}(ho:o.op=.extract x i)(he:qI H L N env a.tmps){r:A}{p:Prop}
 (h:zO env σ (.ext o.dst x i)=some (p,r)):zAl P H L w a o r:=by
 have hx:=qR he x;simp only[zO]at h;split at h<;>try (cases h; done)
 rename_i cs hxe;rw[hxe]at hx;simp only[Rel]at hx;obtain⟨vs,hv,h1⟩:=hx;simp only[Option.map_eq_some_iff,Prod.mk.injEq]at h;obtain⟨r',h3,_,rfl⟩:=h;obtain⟨v,hg,hrel⟩:=h1.get h3;refine⟨v,?_,hrel⟩;unfold execOp;simp[ho,hv,Instr.extract,hg]
theorem zPH {o:Oper}{x:Operand}(ho:o.op=.nilCheck x)(he:qI H L N env a.tmps){r:A}{p:Prop}
 (h:zO env σ (.nilc o.dst x)=some (p,r)):zAl P H L w a o r:=by
 have hx:=qR he x;simp only[zO]at h;split at h<;>try (cases h; done)
 all_goals
  rename_i hxe;cases h;rw[hxe]at hx;have hx':=hx;simp only[Rel]at hx'
 ·obtain⟨li,b,_,_,_,hv⟩:=hx';refine⟨_,?_,hx⟩;unfold execOp;simp only[ho,hv];rfl
 ·obtain⟨b,o',us,hv,_⟩:=hx';refine⟨_,?_,hx⟩;unfold execOp;simp only[ho,hv];rfl
theorem zGm (he:qI H L N env a.tmps):∀(xs:List Operand),zX H L (xs.map (ev env)) (xs.map a.eval)
 | []=>jP
 | x::xs=>qS (qR he x) (zGm he xs)
theorem zSn {o:Oper}{f:FuncId}{first cap:Array Operand}(ho:o.op=.makeFunc (.func f) first cap)(he:qI H L N env a.tmps) :
 zAl P H L w a o (.clo f (first.toList.map (ev env)) (cap.toList.map (ev env))):=by
 refine⟨.func (.func f) (first.map a.eval) (cap.map a.eval),?_,?_⟩
 ·unfold execOp;simp[ho,Instr.makeFunc]
 ·simp only[Rel];refine⟨first.toList.map a.eval,cap.toList.map a.eval,?_,zGm he _,zGm he _⟩
  congr 1<;>exact Array.ext' (by simp)
theorem zSr {o:Oper}{c:Call}{t e:TypeId}{x:Operand}(ho:o.op=.call c)(hc:c.callee=.builtin .len)(ha:c.args.toList=[x])(ht:c.argTypes[0]?=some t)
 (hu:P.underlying t=some (.slice e))(he:qI H L N env a.tmps)(hs:RelSt H L σ w){r:A}{p:Prop}
 (h:zO env σ (.len o.dst false x)=some (p,r)):zAl P H L w a o r:=by
 have hx:=qR he x;have ha':c.args = #[x]:=by cases hh:c.args; simp_all
 have fin:∀(n:Nat) ad cap,a.eval x=.slice ad n cap→r=.lit (.int .i64 n)→zAl P H L w a o r:=by rintro n ad cap hv rfl;refine⟨.int .i64 n,?_,by simp[Rel]⟩;unfold execOp;simp[ho,resolve,hc,invoke,builtin,ha',hv,Builtin.len_,ht,run_underlying hu,goInt]
 simp only[zO]at h;split at h<;>try (cases h; done)
 ·rename_i hxe;rw[hxe]at hx;simp only[Rel]at hx;cases h;exact fin 0 _ _ hx rfl
 ·rename_i n cs hxe;rw[hxe]at hx;simp only[Rel]at hx;obtain⟨ad,cap,hv,_⟩:=hx;cases h;exact fin n _ _ hv rfl
 ·rename_i n cs hxe;rw[hxe]at hx;simp only[Rel]at hx;obtain⟨ad,hv,_⟩:=hx;cases h;exact fin n _ _ hv rfl
 ·rename_i l n hxe;rw[hxe]at hx;simp only[Rel]at hx;split at h<;>try (cases h; done)
  rename_i fz e' sz m ds hds;split at h<;>try (cases h; done)
  rename_i hn;cases h;obtain⟨_,li,e1,e2,e3,hv⟩:=hx;have hob:=hs.obj l li _ e1 hds;simp only[zW]at hob;have hv:=hv (by rw[hn,hob.2.1]);cases hb:li.block with
  | none =>
   rw[hb]at hv;rcases hob.2.2.2 with ⟨_,h0⟩ | ⟨b,cur,hb',_⟩
   ·subst hn; subst h0; exact fin _ _ _ hv rfl
   ·rw[hb]at hb'; cases hb'
  | some b=>rw[hb]at hv; exact fin _ _ _ hv rfl
 ·rename_i l n off k' _ hxe;rw[hxe]at hx;simp only[Rel]at hx;split at h<;>try (cases h; done)
  rename_i fz e' sz m ds hds;split at h<;>try (cases h; done)
  rename_i hn;cases h;obtain⟨_,li,e1,e2,e3,hv⟩:=hx;have hob:=hs.obj l li _ e1 hds;simp only[zW]at hob;obtain⟨_,ad,cap,hv,_⟩:=hv (by rw[hn,hob.2.1]);exact fin _ _ _ hv rfl
theorem zPG {o:Oper}{c:Call}{t:TypeId}{x:Operand}(ho:o.op=.call c)(hc:c.callee=.builtin .len)(ha:c.args.toList=[x])(ht:c.argTypes[0]?=some t)
 (hu:P.underlying t=some .string)(he:qI H L N env a.tmps){r:A}{p:Prop}
 (h:zO env σ (.len o.dst true x)=some (p,r)):zAl P H L w a o r:=by
 have hx:=qR he x;have ha':c.args = #[x]:=by cases hh:c.args; simp_all
 simp only[zO]at h;split at h<;>try (cases h; done)
 rename_i s hxe;rw[hxe]at hx;simp only[Rel]at hx;cases h;refine⟨.int .i64 s.size,?_,by simp[Rel]⟩;unfold execOp;simp[ho,resolve,hc,invoke,builtin,ha',hx,Builtin.len_,ht,run_underlying hu,goInt]
theorem zKu (mx:Bool):∀(xs:List A) (vs:List Value) (k:IntKind) (m:Int) (r:A),zX H L xs vs→zF7 mx m xs k=some r →
 ∃v,(vs.foldlM (if mx then Builtin.max2 else Builtin.min2) (.int k m)).run P w=.ok v w∧Rel H L r v
 | [],vs,k,m,r,hr,h=>by have:=jI hr;subst this;simp only[zF7,Option.some.injEq]at h;subst h;exact⟨.int k m,by simp,by simp[Rel]⟩
 | x::xs,vs,k,m,r,hr,h=>by
  obtain⟨u,us,rfl,h1,h2⟩:=qA hr;unfold zF7 at h;split at h<;>try (cases h; done)
  ·rename_i heq; cases heq
  ·rename_i k' b rest heq;cases heq;split at h<;>try (cases h; done)
   rename_i hk;subst hk;simp only[Rel]at h1;subst h1;obtain⟨v,hrun,hrel⟩:=zKu mx xs us k' _ r h2 h;refine⟨v,?_,hrel⟩;rw[List.foldlM_cons,Sem.run_bind];cases mx
   ·simpa [Builtin.min2] using hrun
   ·simpa [Builtin.max2] using hrun
theorem zNT {o:Oper}{c:Call}{mx:Bool}(ho:o.op=.call c)(hc:c.callee=.builtin (if mx then .max else .min))(he:qI H L N env a.tmps){r:A}{p:Prop}
 (h:zO env σ (.mm o.dst mx c.args.toList)=some (p,r)):zAl P H L w a o r:=by
 have hx:=zGm he c.args.toList;simp only[zO]at h;split at h<;>try (cases h; done)
 rename_i k m rest hm;simp only[Option.map_eq_some_iff,Prod.mk.injEq]at h;obtain⟨r',h3,_,rfl⟩:=h;rw[hm]at hx;obtain⟨u,us,e,h1,h2⟩:=qA hx;simp only[Rel]at h1;subst h1;obtain⟨v,hrun,hrel⟩:=zKu (P:=P) (w:=w) mx rest us k m r' h2 h3;refine⟨v,?_,hrel⟩;unfold execOp;cases mx
 ·simp only[Bool.false_eq_true,if_false]at hc hrun;simp[ho,resolve,hc,invoke,builtin,Builtin.min_,e,hrun]
 ·simp only[if_true]at hc hrun;simp[ho,resolve,hc,invoke,builtin,Builtin.max_,e,hrun]
end
end Go.Abs

/-
  Soundness of the operations that leave the state alone, all of them.
  Soundness of the operations that leave the state alone: comparison, building, slicing; and all in one.
  Soundness: building structs and arrays; all operations that leave the state alone, in one theorem.
-/
import Derived.Test.YtdnelmeboihpkaaGreatDoorX1
import Derived.Laws.StructEq
set_option linter.unusedVariables false
set_option maxHeartbeats 8000000
set_option maxRecDepth 100000
set_option linter.unusedSimpArgs false
namespace Go.Abs
section
variable {P:Program}{H:Mem}{L:List LI} {σ : St}{w:World}{N:Nat}{env:Env}{a:Act}
def zAv (P:Program)(H:Mem)(L:List LI)(w:World)(a:Act)(o:Oper)(r:A):Prop :=
 ∃v,(execOp a.eval o).run P w=.ok (.value v) w∧Rel H L r v
theorem qH {s:Sem Value}{v:Value}{w':World}(h:s.run P w=.ok v w'):(do pure (Next.value (←s)):Sem Next).run P w=.ok (.value v) w':=by simp[h]
theorem zWe {o:Oper}{t:TypeId}{x:Operand}{u:TypeDesc}{i:TypeInfo}(ho:o.op=.load t x)(hu:P.underlying t=some u)(hi:P.info? t=some i)
 (he:zX H L N env a.tmps)(hs:RelSt H L σ w){r:A}(h:((ldA σ i.size (ev env x)).bind (zBx (zH2 u)))=some r):zAv P H L w a o r:=by
 rw[jA5]at h;obtain⟨cs,h1,h2⟩:=h;obtain⟨b,off,us,hv,hr,hl,ho1,hc⟩:=zME hs (qG he x) h1;obtain⟨v,hrun,hrel⟩:=zJ4 (w:=w) hu hi hc hl hr ho1 h2;refine⟨v,?_,hrel⟩;unfold execOp;simp only[ho];exact qH (by simp[Instr.loadAt,hv,Instr.sureAddr,hrun])
theorem zM8 {o:Oper}{x:Operand}(ho:o.op=.move x∨o.op=.assign x)(he:zX H L N env a.tmps):zAv P H L w a o (ev env x):=by refine⟨a.eval x,?_,qG he x⟩;unfold execOp;rcases ho with ho | ho<;>simp[ho]
theorem zQZ {o:Oper}{c x y:Operand}{t:Bool}(ho:o.op=.pick c x y)(he:zX H L N env a.tmps)(hc:ev env c=.lit (.bool t)) :
 zAv P H L w a o (if t then ev env x else ev env y):=by
 have h:=qG he c;rw[hc]at h;simp only[Rel]at h;refine⟨if t then a.eval x else a.eval y,?_,?_⟩
 ·unfold execOp;simp[ho,h,asBool]
 ·cases t
  ·exact qG he y
  ·exact qG he x
theorem zQW {o:Oper}{s:TypeId}{x:Operand}{f:Nat}{fs:Array Field}{g:Field}{i:TypeInfo}(ho:o.op=.fieldAddr s x f)
 (hu:P.underlying s=some (.struct fs))(hg:fs[f]?=some g)(hi:P.info? g.type=some i)(h0:i.size≠0)(he:zX H L N env a.tmps)(hs:RelSt H L σ w){r:A}{p:Prop}
 (h:zG env σ (.addr o.dst x g.offset)=some (p,r)):zAv P H L w a o r:=by
 have hx:=qG he x;have fin:∀b off,a.eval x=.pointer (some ⟨b,off,none⟩)→Rel H L r (.pointer (some ⟨b,off+g.offset,none⟩))→zAv P H L w a o r:=by intro b off hv hr;refine⟨_,?_,hr⟩;unfold execOp;simp only[ho];refine qH ?_;simp[Instr.fieldAt,run_underlying hu,hg,hv,Instr.sureAddr,fieldPlace,yC hi,h0,Addr.add_lit]
 simp only[zG]at h;split at h<;>try (cases h; done)
 ·rename_i l off hxe;cases h;rw[hxe]at hx;simp only[Rel]at hx;obtain⟨li,b,e1,e2,e3,hv⟩:=hx;exact fin b off hv (by simp only[Rel]; exact⟨li,b,e1,e2,e3,rfl⟩)
 ·rename_i cs hxe;cases h;rw[hxe]at hx;simp only[Rel]at hx;obtain⟨b,off,us,hv,h1,h2,h3⟩:=hx;exact fin b off hv (by simp only[Rel]; exact⟨b,off+g.offset,us.drop g.offset,rfl,h1.drop _,fun u hu=>h2 u (jBo hu),h3.drop _⟩)
 ·rename_i l n off hxe;rw[hxe]at hx;simp only[Rel]at hx;obtain⟨ho1,li,e1,e2,e3,hv⟩:=hx;split at h<;>try (cases h; done)
  rename_i fz e sz m ds hds;split at h<;>try (cases h; done)
  rename_i hn;cases h;have hob:=hs.obj l li _ e1 hds;simp only[zL]at hob;obtain⟨b,hb,hv⟩:=hv (by rw[hn,hob.2.1]);exact fin b off hv (by simp only[Rel]; exact⟨rfl,li,e1,e2,e3,fun _=>⟨b,hb,rfl⟩⟩)
theorem zDK (k:IntKind)(j:Int):(asIntOf (.int k j)).run P w=.ok (k,j) w:=rfl
theorem zTB {o:Oper}{t e:TypeId}{x i:Operand}{ti:TypeInfo}(ho:o.op=.indexAddr t x i)
 (hu:P.underlying t=some (.slice e))(hi:P.info? e=some ti)(he:zX H L N env a.tmps)(hs:RelSt H L σ w){r:A}{p:Prop}
 (h:zG env σ (.idx o.dst x i ti.size)=some (p,r))(hp:p):zAv P H L w a o r:=by
 have hx:=qG he x;have hy:=qG he i;have fin:∀b off n cap (k:IntKind) (j:Int),a.eval x=.slice (some ⟨b,off,none⟩) n cap→a.eval i=.int k j→0≤j→j<n →
  Rel H L r (.pointer (some ⟨b,off+j.toNat*ti.size,none⟩))→zAv P H L w a o r:=by
  intro b off n cap k j hv hj h0 h1 hr;refine⟨_,?_,hr⟩;unfold execOp;simp only[ho];refine qH ?_;simp[Instr.indexAt,run_underlying hu,hv,hj,zDK,yC hi,Addr.add_lit,h0,h1]
 simp only[zG]at h;split at h<;>try (cases h; done)
 ·rename_i n cs k j hxe hye;cases h;rw[hxe]at hx;rw[hye]at hy;simp only[Rel]at hx hy;obtain⟨ad,cap,hv,h1,h2,h3⟩:=hx;obtain⟨⟨h4,h5⟩,h6⟩:=hp;rcases h3 with ⟨rfl,rfl⟩ | ⟨b,off,us,rfl,g1,g2,g3⟩
  ·simp at h6
  ·exact fin b off n cap k j hv hy h4 h5 (by simp only[Rel]; exact⟨b,_,us.drop _,rfl,g1.drop _,fun u hu=>g2 u (jBo hu),g3.drop _⟩)
 ·rename_i n cs k j hxe hye;cases h;rw[hxe]at hx;rw[hye]at hy;simp only[Rel]at hx hy;obtain⟨ad,hv,h2,h3⟩:=hx;obtain⟨⟨h4,h5⟩,h6⟩:=hp;rcases h3 with ⟨rfl,rfl⟩ | ⟨b,off,us,rfl,g1,g2,g3⟩
  ·simp at h6
  ·exact fin b off n n k j hv hy h4 h5 (by simp only[Rel]; exact⟨b,_,us.drop _,rfl,g1.drop _,fun u hu=>g2 u (jBo hu),g3.drop _⟩)
 ·rename_i l n k j hxe hye;split at h<;>try (cases h; done)
  rename_i fz e' sz m ds hds;split at h<;>try (cases h; done)
  rename_i hn;obtain⟨hn,rfl⟩:=hn;cases h;rw[hxe]at hx;rw[hye]at hy;simp only[Rel]at hx hy;obtain⟨ho1,li,e1,e2,e3,hv⟩:=hx;have hob:=hs.obj l li _ e1 hds;simp only[zL]at hob;obtain⟨_,hlen,_,hob⟩:=hob;have hv:=hv (by rw[hn,hlen]);rcases hob with ⟨_,h0⟩ | ⟨b,cur,hb,_⟩
  ·exfalso; have:=hp.1; have:=hp.2; omega
  ·rw[hb]at hv;simp only at hv;have:=fin b 0 n li.cap k j hv hy hp.1 hp.2 (by simp only[Rel]; exact⟨rfl,li,e1,e2,e3,fun _=>⟨b,hb,by simp⟩⟩);exact this
 ·rename_i l n off k' _ k j hxe hye;split at h<;>try (cases h; done)
  rename_i fz e' sz m ds hds;split at h<;>try (cases h; done)
  rename_i hn;obtain⟨hn,rfl⟩:=hn;cases h;rw[hxe]at hx;rw[hye]at hy;simp only[Rel]at hx hy;obtain⟨ho1,li,e1,e2,e3,hv⟩:=hx;have hob:=hs.obj l li _ e1 hds;simp only[zL]at hob;obtain⟨_,hlen,_,hob⟩:=hob;obtain⟨_,ad,cap,hv,_,_,g3⟩:=hv (by rw[hn,hlen]);rcases g3 with g3 | ⟨b,hb,rfl,_⟩
  ·exfalso; have:=hp.1; have:=hp.2; omega
  ·exact fin b off k' cap k j hv hy hp.1 hp.2 (by simp only[Rel]; exact⟨rfl,li,e1,e2,e3,fun _=>⟨b,hb,rfl⟩⟩)
theorem zN7 {o:Oper}{t e:TypeId}{x i:Operand}{ti:TypeInfo}{n:Nat}(ho:o.op=.indexAddr t x i)
 (hu:P.underlying t=some (.array n e))(hi:P.info? e=some ti)(he:zX H L N env a.tmps){r:A}{p:Prop}
 (h:zG env σ (.idxarr o.dst x i n ti.size)=some (p,r))(hp:p):zAv P H L w a o r:=by
 have hx:=qG he x;have hy:=qG he i;simp only[zG]at h;split at h<;>try (cases h; done)
 rotate_left
 ·rename_i cs k j hxe hye;cases h;rw[hxe]at hx;rw[hye]at hy;simp only[Rel]at hx hy;obtain⟨b,off,us,hv,g1,g2,g3⟩:=hx;refine⟨.pointer (some ⟨b,off+j.toNat*ti.size,none⟩),?_,by simp only[Rel]; exact⟨b,_,_,rfl,g1.drop _,fun u hu=>g2 u (jBo hu),g3.drop _⟩⟩;unfold execOp;simp only[ho];refine qH ?_;simp[Instr.indexAt,Instr.sureAddr,run_underlying hu,hv,hy,zDK,yC hi,Addr.add_lit,hp.1.1,hp.1.2]
 rename_i l off k j hxe hye;cases h;rw[hxe]at hx;rw[hye]at hy;simp only[Rel]at hx hy;obtain⟨li,b,e1,e2,e3,hv⟩:=hx;refine⟨.pointer (some ⟨b,off+j.toNat*ti.size,none⟩),?_,by simp only[Rel]; exact⟨li,b,e1,e2,e3,rfl⟩⟩;unfold execOp;simp only[ho];refine qH ?_;simp[Instr.indexAt,Instr.sureAddr,run_underlying hu,hv,hy,zDK,yC hi,Addr.add_lit,hp.1,hp.2]
theorem zPR {t:TypeId}{u:TypeDesc}{i:TypeInfo}(hu:P.underlying t=some u)(hi:P.info? t=some i){vs:List Value}{cs:List A}(hr:zN H L cs vs)(h1:∀x∈vs,one x)
 {off:Nat}{r:A}(h:(sub cs off i.size).bind (zBx (zH2 u))=some r):∃v,(part t vs.toArray off).run P w=.ok v w∧Rel H L r v:=by
 rw[jA5]at h;obtain⟨ds,g1,g2⟩:=h;obtain⟨g3,g4⟩:=zJT g1 hr;unfold part;rw[Sem.run_bind,zDy hu,Result.andThen_ok];cases hag:zH2 u with
 | true =>
  rw[hag]at g2;simp only[zBx,jA0]at g2;subst g2;refine⟨.agg ((vs.drop off).take i.size).toArray,?_,by simp only[Rel]; exact⟨_,rfl,g3,zAV h1⟩⟩;simp only[if_true,Sem.run_bind,yC hi,Result.andThen_ok,Sem.run_pure]
  congr 2
  apply jCb;simp[List.extract_eq_take_drop]
 | false =>
  rw[hag]at g2;cases ds with
  | nil=>simp[zBx]at g2
  | cons c ds =>
   cases ds with
   | cons c' ds=>simp[zBx]at g2
   | nil =>
    simp only[zBx,jA0]at g2;subst g2;obtain⟨v,us,e,k1,k2⟩:=zT g3;have hv:vs[off]?=some v:=by
     have:((vs.drop off).take i.size)[0]?=some v:=by rw[e]; rfl
     simpa using zCI this
    refine⟨v,?_,k1⟩;simp[hv]
theorem zTA {o:Oper}{t:TypeId}{x:Operand}{f:Nat}{fs:Array Field}{g:Field}{u:TypeDesc}{i:TypeInfo}(ho:o.op=.field t x f)
 (hut:P.underlying t=some (.struct fs))(hg:fs[f]?=some g)(hu:P.underlying g.type=some u)(hi:P.info? g.type=some i)(he:zX H L N env a.tmps){r:A}{p:Prop}
 (h:zG env σ (.fld o.dst x g.offset i.size (zH2 u))=some (p,r)):zAv P H L w a o r:=by
 have hx:=qG he x;simp only[zG]at h;split at h<;>try (cases h; done)
 rename_i cs hxe;rw[hxe]at hx;simp only[Rel]at hx;obtain⟨vs,hv,h1,h2⟩:=hx;simp only[jAb,jB8]at h;obtain⟨r',h3,_,rfl⟩:=h;obtain⟨v,hrun,hrel⟩:=zPR (w:=w) hu hi h1 h2 h3;refine⟨v,?_,hrel⟩;unfold execOp;simp only[ho];refine qH ?_;simp[Instr.field,run_underlying hut,hg,hv,asAgg,hrun]
theorem zWd {o:Oper}{t e:TypeId}{x y:Operand}{n:Nat}{u:TypeDesc}{i:TypeInfo}(ho:o.op=.index t x y)
 (hut:P.underlying t=some (.array n e))(hu:P.underlying e=some u)(hi:P.info? e=some i)(he:zX H L N env a.tmps){r:A}{p:Prop}
 (h:zG env σ (.ix o.dst x y n i.size (zH2 u))=some (p,r))(hp:p):zAv P H L w a o r:=by
 have hx:=qG he x;have hy:=qG he y;simp only[zG]at h;split at h<;>try (cases h; done)
 rename_i cs k j hxe hye;rw[hxe]at hx;rw[hye]at hy;simp only[Rel]at hx hy;obtain⟨vs,hv,h1,h2⟩:=hx;simp only[jAb,jB8]at h;obtain⟨r',h3,rfl,rfl⟩:=h;obtain⟨v,hrun,hrel⟩:=zPR (w:=w) hu hi h1 h2 h3;refine⟨v,?_,hrel⟩;unfold execOp;simp only[ho];refine qH ?_;simp[Instr.index,run_underlying hut,hv,hy,zDK,hp.1,hp.2,yC hi,hrun]
theorem zFP (op:BinOp)(t:TypeId)(x y:Operand)(k k':IntKind)(m n:Int):(eqGuard op t x y (.int k m) (.int k' n)).run P w=.ok () w:=by unfold eqGuard;cases op<;>rfl
theorem zT7 {o:Oper}{op:BinOp}{t t':TypeId}{x y:Operand}(ho:o.op=.binOp op t x y t')(he:zX H L N env a.tmps){r:A}{p:Prop}
 (h:zG env σ (.bin o.dst op x y)=some (p,r))(hp:p):zAv P H L w a o r:=by
 have hx:=qG he x;have hy:=qG he y;simp only[zG]at h;split at h<;>try (cases h; done)
 case h_2 sa sb hxe hye =>
  rw[hxe]at hx;rw[hye]at hy;simp only[Rel]at hx hy;cases op<;>simp only[zXd]at h<;>try (cases h; done)
  simp only[jA0,jB8]at h;obtain⟨rfl,rfl⟩:=h;refine⟨.string (sa++sb),?_,by simp[Rel]⟩;unfold execOp;simp only[ho];refine qH ?_;have e2:IntKind.i64.max=9223372036854775807:=by decide
  have hle:¬((sa.size+sb.size:Nat):Int) > IntKind.i64.max:=by rw[e2]; omega
  rw[hx,hy];simp only[eqGuard,binOp,Op.stringOp];rw[if_neg hle];rfl
 rename_i k m k' n hxe hye;split at h<;>try (cases h; done)
 rename_i hk;subst hk;rw[hxe]at hx;rw[hye]at hy;simp only[Rel]at hx hy;have fin:∀v,(binOp op t (.int k m) (.int k n)).run P w=.ok v w→Rel H L r v→zAv P H L w a o r:=by intro v hr hrel;refine⟨v,?_,hrel⟩;unfold execOp;simp only[ho];refine qH ?_;rw[Sem.run_bind,hx,hy,zFP,Result.andThen_ok,hr]
 cases op<;>simp only[zDT]at h<;>try (cases h; done)
 all_goals (simp only[jA0,jB8]at h; obtain⟨hpp,hrr⟩:=h; subst hrr; subst hpp)
 case h_1.isTrue.add=>exact fin (.int k (k.wrap (m+n))) (by simp[binOp,Op.intArith]) (by simp[Rel])
 case h_1.isTrue.sub=>exact fin (.int k (k.wrap (m-n))) (by simp[binOp,Op.intArith]) (by simp[Rel])
 case h_1.isTrue.mul=>exact fin (.int k (k.wrap (m*n))) (by simp[binOp,Op.intArith]) (by simp[Rel])
 case h_1.isTrue.quo=>exact fin (.int k (k.wrap (m.tdiv n))) (by simp[binOp,Op.intDiv,hp]) (by simp[Rel])
 case h_1.isTrue.rem=>exact fin (.int k (m.tmod n)) (by simp[binOp,Op.intDiv,hp]) (by simp[Rel])
 case h_1.isTrue.lss=>exact fin (.bool (decide (m<n))) (by simp[binOp,Op.intCmp]) (by simp[Rel])
 case h_1.isTrue.leq=>exact fin (.bool (decide (m≤n))) (by simp[binOp,Op.intCmp]) (by simp[Rel])
 case h_1.isTrue.gtr=>exact fin (.bool (decide (n<m))) (by simp[binOp,Op.intCmp]) (by simp[Rel])
 case h_1.isTrue.geq=>exact fin (.bool (decide (n≤m))) (by simp[binOp,Op.intCmp]) (by simp[Rel])
theorem zTD {o:Oper}{t:TypeId}{x:Operand}{u:TypeDesc}(ho:o.op=.makeInterface t x)(hu:P.underlying t=some u)(hn:∀ms,u≠.interface ms)(he:zX H L N env a.tmps){r:A}{p:Prop}
 (h:zG env σ (.mki o.dst t x)=some (p,r)):zAv P H L w a o r:=by
 have hx:=qG he x;simp only[zG,jA0,jB8]at h;obtain⟨_,rfl⟩:=h;refine⟨.iface t (a.eval x),?_,?_⟩
 ·unfold execOp;simp only[ho];refine qH ?_;simp only[Instr.makeInterface,Sem.run_bind,run_underlying hu,Result.andThen_ok];cases u<;>first | rfl | exact(hn _ rfl).elim
 ·split
  ·rename_i v hv;rw[hv]at hx;simp only[Rel]at hx;simp[Rel,hx]
  ·simp[Rel]
theorem zTE {o:Oper}{t:TypeId}{x:Operand}(ho:o.op=.unOp .neg t x)(he:zX H L N env a.tmps){r:A}{p:Prop}
 (h:zG env σ (.neg o.dst x)=some (p,r)):zAv P H L w a o r:=by
 have hx:=qG he x;simp only[zG]at h;split at h<;>try (cases h; done)
 rename_i k m hxe;cases h;rw[hxe]at hx;simp only[Rel]at hx;refine⟨.int k (k.wrap (0-m)),?_,by simp[Rel]⟩;unfold execOp;simp[ho,hx,Op.unary,Op.intArith]
theorem zTF {o:Oper}{t:TypeId}{x:Operand}(ho:o.op=.unOp .not t x)(he:zX H L N env a.tmps){r:A}{p:Prop}
 (h:zG env σ (.not o.dst x)=some (p,r)):zAv P H L w a o r:=by
 have hx:=qG he x;simp only[zG]at h;split at h<;>try (cases h; done)
 rename_i b hxe;cases h;rw[hxe]at hx;simp only[Rel]at hx;refine⟨.bool !b,?_,by simp[Rel]⟩;unfold execOp;simp[ho,hx,Op.unary]
theorem zT9 {o:Oper}{x:Operand}{i:Nat}(ho:o.op=.extract x i)(he:zX H L N env a.tmps){r:A}{p:Prop}
 (h:zG env σ (.ext o.dst x i)=some (p,r)):zAv P H L w a o r:=by
 have hx:=qG he x;simp only[zG]at h;split at h<;>try (cases h; done)
 rename_i cs hxe;rw[hxe]at hx;simp only[Rel]at hx;obtain⟨vs,hv,h1⟩:=hx;simp only[jAb,jB8]at h;obtain⟨r',h3,_,rfl⟩:=h;obtain⟨v,hg,hrel⟩:=h1.get h3;refine⟨v,?_,hrel⟩;unfold execOp;simp[ho,hv,Instr.extract,hg]
theorem zQY {o:Oper}{x:Operand}(ho:o.op=.nilCheck x)(he:zX H L N env a.tmps){r:A}{p:Prop}
 (h:zG env σ (.nilc o.dst x)=some (p,r)):zAv P H L w a o r:=by
 have hx:=qG he x;simp only[zG]at h;split at h<;>try (cases h; done)
 all_goals
  rename_i hxe;cases h;rw[hxe]at hx;have hx':=hx;simp only[Rel]at hx'
 ·obtain⟨li,b,_,_,_,hv⟩:=hx';refine⟨_,?_,hx⟩;unfold execOp;simp only[ho,hv];rfl
 ·obtain⟨b,o',us,hv,_⟩:=hx';refine⟨_,?_,hx⟩;unfold execOp;simp only[ho,hv];rfl
theorem zG5 (he:zX H L N env a.tmps):∀(xs:List Operand),zN H L (xs.map (ev env)) (xs.map a.eval)
 | []=>jK
 | x::xs=>qJ (qG he x) (zG5 he xs)
theorem zT8 {o:Oper}{f:FuncId}{first cap:Array Operand}(ho:o.op=.makeFunc (.func f) first cap)(he:zX H L N env a.tmps) :
 zAv P H L w a o (.clo f (first.toList.map (ev env)) (cap.toList.map (ev env))):=by
 refine⟨.func (.func f) (first.map a.eval) (cap.map a.eval),?_,?_⟩
 ·unfold execOp;simp[ho,Instr.makeFunc]
 ·simp only[Rel];refine⟨first.toList.map a.eval,cap.toList.map a.eval,?_,zG5 he _,zG5 he _⟩
  congr 1<;>exact jCb (by simp)
theorem zTC {o:Oper}{c:Call}{t e:TypeId}{x:Operand}(ho:o.op=.call c)(hc:c.callee=.builtin .len)(ha:c.args.toList=[x])(ht:c.argTypes[0]?=some t)
 (hu:P.underlying t=some (.slice e))(he:zX H L N env a.tmps)(hs:RelSt H L σ w){r:A}{p:Prop}
 (h:zG env σ (.len o.dst false x)=some (p,r)):zAv P H L w a o r:=by
 have hx:=qG he x;have ha':c.args = #[x]:=by cases hh:c.args; simp_all
 have fin:∀(n:Nat) ad cap,a.eval x=.slice ad n cap→r=.lit (.int .i64 n)→zAv P H L w a o r:=by rintro n ad cap hv rfl;refine⟨.int .i64 n,?_,by simp[Rel]⟩;unfold execOp;simp[ho,resolve,hc,invoke,builtin,ha',hv,Builtin.len_,ht,run_underlying hu,goInt]
 simp only[zG]at h;split at h<;>try (cases h; done)
 ·rename_i hxe;rw[hxe]at hx;simp only[Rel]at hx;cases h;exact fin 0 _ _ hx rfl
 ·rename_i n cs hxe;rw[hxe]at hx;simp only[Rel]at hx;obtain⟨ad,cap,hv,_⟩:=hx;cases h;exact fin n _ _ hv rfl
 ·rename_i n cs hxe;rw[hxe]at hx;simp only[Rel]at hx;obtain⟨ad,hv,_⟩:=hx;cases h;exact fin n _ _ hv rfl
 ·rename_i l n hxe;rw[hxe]at hx;simp only[Rel]at hx;split at h<;>try (cases h; done)
  rename_i fz e' sz m ds hds;split at h<;>try (cases h; done)
  rename_i hn;cases h;obtain⟨_,li,e1,e2,e3,hv⟩:=hx;have hob:=hs.obj l li _ e1 hds;simp only[zL]at hob;have hv:=hv (by rw[hn,hob.2.1]);cases hb:li.block with
  | none =>
   rw[hb]at hv;rcases hob.2.2.2 with ⟨_,h0⟩ | ⟨b,cur,hb',_⟩
   ·subst hn; subst h0; exact fin _ _ _ hv rfl
   ·rw[hb]at hb'; cases hb'
  | some b=>rw[hb]at hv; exact fin _ _ _ hv rfl
 ·rename_i l n off k' _ hxe;rw[hxe]at hx;simp only[Rel]at hx;split at h<;>try (cases h; done)
  rename_i fz e' sz m ds hds;split at h<;>try (cases h; done)
  rename_i hn;cases h;obtain⟨_,li,e1,e2,e3,hv⟩:=hx;have hob:=hs.obj l li _ e1 hds;simp only[zL]at hob;obtain⟨_,ad,cap,hv,_⟩:=hv (by rw[hn,hob.2.1]);exact fin _ _ _ hv rfl
theorem zQX {o:Oper}{c:Call}{t:TypeId}{x:Operand}(ho:o.op=.call c)(hc:c.callee=.builtin .len)(ha:c.args.toList=[x])(ht:c.argTypes[0]?=some t)
 (hu:P.underlying t=some .string)(he:zX H L N env a.tmps){r:A}{p:Prop}
 (h:zG env σ (.len o.dst true x)=some (p,r)):zAv P H L w a o r:=by
 have hx:=qG he x;have ha':c.args = #[x]:=by cases hh:c.args; simp_all
 simp only[zG]at h;split at h<;>try (cases h; done)
 rename_i s hxe;rw[hxe]at hx;simp only[Rel]at hx;cases h;refine⟨.int .i64 s.size,?_,by simp[Rel]⟩;unfold execOp;simp[ho,resolve,hc,invoke,builtin,ha',hx,Builtin.len_,ht,run_underlying hu,goInt]
theorem zKT (mx:Bool):∀(xs:List A) (vs:List Value) (k:IntKind) (m:Int) (r:A),zN H L xs vs→zGc mx m xs k=some r →
 ∃v,(vs.foldlM (if mx then Builtin.max2 else Builtin.min2) (.int k m)).run P w=.ok v w∧Rel H L r v
 | [],vs,k,m,r,hr,h=>by have:=jF hr;subst this;simp only[zGc,jA0]at h;subst h;exact⟨.int k m,by simp,by simp[Rel]⟩
 | x::xs,vs,k,m,r,hr,h=>by
  obtain⟨u,us,rfl,h1,h2⟩:=zT hr;unfold zGc at h;split at h<;>try (cases h; done)
  ·rename_i heq; cases heq
  ·rename_i k' b rest heq;cases heq;split at h<;>try (cases h; done)
   rename_i hk;subst hk;simp only[Rel]at h1;subst h1;obtain⟨v,hrun,hrel⟩:=zKT mx xs us k' _ r h2 h;refine⟨v,?_,hrel⟩;rw[List.foldlM_cons,Sem.run_bind];cases mx
   ·simpa [Builtin.min2] using hrun
   ·simpa [Builtin.max2] using hrun
theorem zPm {o:Oper}{c:Call}{mx:Bool}(ho:o.op=.call c)(hc:c.callee=.builtin (if mx then .max else .min))(he:zX H L N env a.tmps){r:A}{p:Prop}
 (h:zG env σ (.mm o.dst mx c.args.toList)=some (p,r)):zAv P H L w a o r:=by
 have hx:=zG5 he c.args.toList;simp only[zG]at h;split at h<;>try (cases h; done)
 rename_i k m rest hm;simp only[jAb,jB8]at h;obtain⟨r',h3,_,rfl⟩:=h;rw[hm]at hx;obtain⟨u,us,e,h1,h2⟩:=zT hx;simp only[Rel]at h1;subst h1;obtain⟨v,hrun,hrel⟩:=zKT (P:=P) (w:=w) mx rest us k m r' h2 h3;refine⟨v,?_,hrel⟩;unfold execOp;cases mx
 ·simp only[jAe,if_false]at hc hrun;simp[ho,resolve,hc,invoke,builtin,Builtin.min_,e,hrun]
 ·simp only[if_true]at hc hrun;simp[ho,resolve,hc,invoke,builtin,Builtin.max_,e,hrun]
end
end Go.Abs
namespace Go.Abs
section
variable {P:Program}{H:Mem}{L:List LI} {σ : St}{w:World}{N:Nat}{env:Env}{a:Act}
theorem zCA (he:zX H L N env a.tmps){d:Nat}{x:Operand}{l:Int}(h:qB env d (some x)=some l):∃k,a.eval x=.int k l:=by
 have hx:=qG he x;simp only[qB]at h;split at h<;>try (cases h; done)
 rename_i k j hxe;cases h;rw[hxe]at hx;simp only[Rel]at hx;exact⟨k,hx⟩
theorem zAm {k:IntKind}{i:Int}{y:Nat}{code:BoundsCode}(h0:0≤i)(h1:i≤y):(Instr.sliceBound (.int k i) y code).run P w=.ok i.toNat w:=by simp[Instr.sliceBound,asIntOf,h0,h1]
theorem zA2 (he:zX H L N env a.tmps){n cap:Nat}{lo hi:Option Operand}{l h:Int}(hl:qB env 0 lo=some l)(hh:qB env n hi=some h)
 (h0:0≤l)(h1:l≤h)(h2:h≤n)(hc:n≤cap):(Instr.sliceBounds true n cap (lo.map a.eval) (hi.map a.eval) none).run P w=.ok (l.toNat,h.toNat,cap) w:=by
 unfold Instr.sliceBounds;cases hi with
 | none =>
  simp only[qB,jA0]at hh;subst hh;cases lo with
  | none =>
   simp only[qB,jA0]at hl;subst hl;simp
  | some x =>
   obtain⟨k,hx⟩:=zCA he hl;have h1':l≤((n:Nat):Int):=h1;simp[hx,zAm h0 h1']
 | some y =>
  obtain⟨k,hy⟩:=zCA he hh;have h0':0≤h:=by omega
  have h2':h≤((cap:Nat):Int):=by omega
  cases lo with
  | none =>
   simp only[qB,jA0]at hl;subst hl;simp[hy,zAm h0' h2']
  | some x =>
   obtain⟨k',hx⟩:=zCA he hl;have h1':l≤((h.toNat:Nat):Int):=by omega
   simp[hy,hx,zAm h0' h2',zAm h0 h1']
theorem zC4 (he:zX H L N env a.tmps){n cap:Nat}{lo:Option Operand}{hi mx:Operand}{l h m:Int}(hl:qB env 0 lo=some l)(hh:qB env n (some hi)=some h)
 (hm:qB env n (some mx)=some m)(h0:0≤l)(h1:l≤h)(h2:h≤n)(hmh:m=h)(hc:n≤cap) :
 (Instr.sliceBounds true n cap (lo.map a.eval) (some (a.eval hi)) (some (a.eval mx))).run P w=.ok (l.toNat,h.toNat,h.toNat) w:=by
 subst hmh;obtain⟨k,hy⟩:=zCA he hh;obtain⟨k',hz⟩:=zCA he hm;have h0':0≤m:=by omega
 have h2':m≤((cap:Nat):Int):=by omega
 have h3':m≤((m.toNat:Nat):Int):=by omega
 unfold Instr.sliceBounds;cases lo with
 | none =>
  simp only[qB,jA0]at hl;subst hl;simp[hy,hz,zAm h0' h2',zAm h0' h3']
 | some x =>
  obtain⟨k'',hx⟩:=zCA he hl;have h1':l≤((m.toNat:Nat):Int):=by omega
  simp[hy,hz,hx,zAm h0' h2',zAm h0' h3',zAm h0 h1']
theorem zTG {o:Oper}{t e:TypeId}{x:Operand}{lo hi mx:Option Operand}{i:TypeInfo}(ho:o.op=.slice t x lo hi mx)
 (hu:P.underlying t=some (.slice e))(hi':P.info? e=some i)(he:zX H L N env a.tmps){r:A}{p:Prop}
 (h:zG env σ (.slc o.dst x i.size lo hi mx)=some (p,r))(hp:p):zAv P H L w a o r:=by
 have hx:=qG he x;have fin:∀ad n cap l h m,a.eval x=.slice ad n cap→(Instr.sliceBounds true n cap (lo.map a.eval) (hi.map a.eval) (mx.map a.eval)).run P w=.ok (l,h,m) w →
  Rel H L r (.slice (if m=l then ad else ad.map (·.add (l*i.size))) (h-l) (m-l))→zAv P H L w a o r:=by
  intro ad n cap l h m hv hb hr;refine⟨_,?_,hr⟩;unfold execOp;simp only[ho];refine qH ?_;simp[Instr.sliceAt,Instr.slice,run_underlying hu,hv,hb,yC hi']
 have part2:∀(ad:Option Addr) (n cap:Nat) (cs:List A) (l h:Int),n≤cap→cap≤maxLen→(n=0∧cs=[]∨∃b o,∃us:List Value,ad=some ⟨b,o,none⟩∧zN H L cs us∧(∀u∈us,one u)∧At H b o us) →
  0≤l→l≤h→h≤n→Rel H L (.sl (h-l).toNat ((cs.drop (l.toNat*i.size)).take ((h-l).toNat*i.size))) (.slice (if cap=l.toNat then ad else ad.map (·.add (l.toNat*i.size))) (h.toNat-l.toNat) (cap-l.toNat)):=by
  intro ad n cap cs l h hc hm hcs h0 h1 h2;have e1:h.toNat-l.toNat=(h-l).toNat:=by omega
  simp only[Rel,e1];refine⟨_,_,rfl,by omega,by omega,?_⟩;by_cases hz:(h-l).toNat=0
  ·exact .inl ⟨hz,by simp[hz]⟩
  ·right;have hne:¬cap=l.toNat:=by omega
   rcases hcs with ⟨rfl,rfl⟩ | ⟨b,off,us,rfl,g1,g2,g3⟩
   ·omega
   ·refine⟨b,off+l.toNat*i.size,_,?_,(g1.drop _).take _,zAV g2,(g3.drop _).take _⟩;simp[hne,Addr.add_lit]
 have part3:∀(ad:Option Addr) (n cap:Nat) (cs:List A) (l h:Int),n≤cap→cap≤maxLen→(n=0∧cs=[]∨∃b o,∃us:List Value,ad=some ⟨b,o,none⟩∧zN H L cs us∧(∀u∈us,one u)∧At H b o us) →
  0≤l→l≤h→h≤n→Rel H L (.fsl (h-l).toNat ((cs.drop (l.toNat*i.size)).take ((h-l).toNat*i.size))) (.slice (if h.toNat=l.toNat then ad else ad.map (·.add (l.toNat*i.size))) (h.toNat-l.toNat) (h.toNat-l.toNat)):=by
  intro ad n cap cs l h hc hm hcs h0 h1 h2;have e1:h.toNat-l.toNat=(h-l).toNat:=by omega
  simp only[Rel,e1];refine⟨_,rfl,by omega,?_⟩;by_cases hz:(h-l).toNat=0
  ·exact .inl ⟨hz,by simp[hz]⟩
  ·right;have hne:¬h.toNat=l.toNat:=by omega
   rcases hcs with ⟨rfl,rfl⟩ | ⟨b,off,us,rfl,g1,g2,g3⟩
   ·omega
   ·refine⟨b,off+l.toNat*i.size,_,?_,(g1.drop _).take _,zAV g2,(g3.drop _).take _⟩;simp[hne,Addr.add_lit]
 cases mx with
 | none =>
  simp only[zG]at h;split at h<;>try (cases h; done)
  ·rename_i n cs hxe;split at h<;>try (cases h; done)
   rename_i l hh hl hhb;cases h;rw[hxe]at hx;simp only[Rel]at hx;obtain⟨ad,cap,hv,g1,g2,g3⟩:=hx;exact fin ad n cap _ _ _ hv (zA2 he hl hhb hp.1 hp.2.1 hp.2.2 g1) (part2 ad n cap cs l hh g1 g2 g3 hp.1 hp.2.1 hp.2.2)
  ·rename_i n cs hxe;split at h<;>try (cases h; done)
   rename_i l hh hl hhb;cases h;rw[hxe]at hx;simp only[Rel]at hx;obtain⟨ad,hv,g2,g3⟩:=hx;exact fin ad n n _ _ _ hv (zA2 he hl hhb hp.1 hp.2.1 hp.2.2 (jA _)) (part2 ad n n cs l hh (jA _) g2 g3 hp.1 hp.2.1 hp.2.2)
  ·rename_i hxe;split at h<;>try (cases h; done)
   rename_i l hh hl hhb;cases h;rw[hxe]at hx;simp only[Rel]at hx;obtain⟨rfl,rfl⟩:=hp;exact fin none 0 0 _ _ _ hx (zA2 (n:=0) (cap:=0) he hl hhb (by omega) (by omega) (by simp) (by omega)) (by simp[Rel])
 | some mx =>
  cases hi with
  | none=>simp only[zG]at h; cases h
  | some hi =>
   simp only[zG]at h;split at h<;>try (cases h; done)
   ·rename_i n cs hxe;split at h<;>try (cases h; done)
    rename_i l hh m hl hhb hmb;cases h;rw[hxe]at hx;simp only[Rel]at hx;obtain⟨ad,cap,hv,g1,g2,g3⟩:=hx;exact fin ad n cap _ _ _ hv (zC4 he hl hhb hmb hp.1.1 hp.1.2.1 hp.1.2.2 hp.2 g1) (part3 ad n cap cs l hh g1 g2 g3 hp.1.1 hp.1.2.1 hp.1.2.2)
   ·rename_i n cs hxe;split at h<;>try (cases h; done)
    rename_i l hh m hl hhb hmb;cases h;rw[hxe]at hx;simp only[Rel]at hx;obtain⟨ad,hv,g2,g3⟩:=hx;exact fin ad n n _ _ _ hv (zC4 he hl hhb hmb hp.1.1 hp.1.2.1 hp.1.2.2 hp.2 (jA _)) (part3 ad n n cs l hh (jA _) g2 g3 hp.1.1 hp.1.2.1 hp.1.2.2)
   ·rename_i hxe;split at h<;>try (cases h; done)
    rename_i l hh m hl hhb hmb;cases h;rw[hxe]at hx;simp only[Rel]at hx;obtain⟨⟨rfl,rfl⟩,rfl⟩:=hp;exact fin none 0 0 _ _ _ hx (zC4 (n:=0) (cap:=0) he hl hhb hmb (by omega) (by omega) (by simp) rfl (by omega)) (by simp[Rel])
theorem zRa {o:Oper}{t e:TypeId}{x:Operand}{lo hi:Option Operand}{i:TypeInfo}(ho:o.op=.slice t x lo hi none)
 (hu:P.underlying t=some (.slice e))(hi':P.info? e=some i)(he:zX H L N env a.tmps)(hs:RelSt H L σ w){r:A}{p:Prop}
 (h:zG env σ (.rslc o.dst x i.size lo hi)=some (p,r))(hp:p):zAv P H L w a o r:=by
 have hx:=qG he x;have fin:∀ad n cap l h m,a.eval x=.slice ad n cap→(Instr.sliceBounds true n cap (lo.map a.eval) (hi.map a.eval) none).run P w=.ok (l,h,m) w →
  Rel H L r (.slice (if m=l then ad else ad.map (·.add (l*i.size))) (h-l) (m-l))→zAv P H L w a o r:=by
  intro ad n cap l h m hv hb hr;refine⟨_,?_,hr⟩;unfold execOp;simp only[ho];refine qH ?_;simp[Instr.sliceAt,Instr.slice,run_underlying hu,hv,hb,yC hi']
 simp only[zG]at h;split at h<;>try (cases h; done)
 ·rename_i l n hxe;split at h<;>try (cases h; done)
  rename_i fz e' sz m ds hds;split at h<;>try (cases h; done)
  rename_i hn;obtain⟨hn,rfl⟩:=hn;split at h<;>try (cases h; done)
  rename_i l' hh hl hhb;cases h;rw[hxe]at hx;simp only[Rel]at hx;obtain⟨_,li,e1,e2,e3,hv⟩:=hx;have hob:=hs.obj l li _ e1 hds;simp only[zL]at hob;obtain⟨_,hlen,_,hob⟩:=hob;have hv:=hv (by rw[hn,hlen]);obtain⟨p1,p2,p3⟩:=hp;rcases hob with ⟨hb,h0⟩ | ⟨b,cur,hb,_,k2,k3,_⟩
  ·rw[hb]at hv;have hn0:n=0:=by omega
   have hv':a.eval x=.slice none n 0:=by rw[hn0]; exact hv
   refine fin none n 0 _ _ _ hv' (zA2 he hl hhb p1 p2 p3 (by omega)) ?_;have hkz:(hh-l').toNat=0:=by omega
   have e5:hh.toNat-l'.toNat=0:=by omega
   simp only[Rel,hkz,e5];refine⟨rfl,li,e1,e2,e3,fun _=>⟨jAv _,_,_,rfl,jAv _,by omega,.inl (by omega)⟩⟩
  ·rw[hb]at hv;refine fin _ n li.cap _ _ _ hv (zA2 he hl hhb p1 p2 p3 (by omega)) ?_;have e5:hh.toNat-l'.toNat=(hh-l').toNat:=by omega
   simp only[Rel,e5];refine⟨rfl,li,e1,e2,e3,fun _=>⟨by omega,_,_,rfl,by omega,by omega,?_⟩⟩;by_cases hz:li.cap-l'.toNat=0
   ·exact .inl hz
   ·have hne:¬li.cap=l'.toNat:=by omega
    refine .inr ⟨b,hb,by simp[hne,Addr.add_lit],?_⟩;rw[←jAt,Nat.add_sub_cancel' (by omega)];exact jA _
 ·rename_i l n off k' c hxe;split at h<;>try (cases h; done)
  rename_i fz e' sz m ds hds;split at h<;>try (cases h; done)
  rename_i hn;obtain⟨hn,rfl⟩:=hn;split at h<;>try (cases h; done)
  rename_i l' hh hl hhb;cases h;rw[hxe]at hx;simp only[Rel]at hx;obtain⟨_,li,e1,e2,e3,hv⟩:=hx;have hob:=hs.obj l li _ e1 hds;simp only[zL]at hob;obtain⟨_,hlen,_,hob⟩:=hob;obtain⟨⟨p1,p2,p3⟩,rfl⟩:=hp;obtain⟨g0,ad,cap,hv2,g1,g2,g3⟩:=hv (by rw[hn,hlen]);refine fin _ k' cap _ _ _ hv2 (zA2 he hl hhb p1 p2 p3 g1) ?_;have e5:hh.toNat-l'.toNat=(hh-l').toNat:=by omega
  simp only[Rel,e5];refine⟨rfl,li,e1,e2,e3,fun _=>⟨by omega,_,_,rfl,by omega,by omega,?_⟩⟩;by_cases hz:cap-l'.toNat=0
  ·exact .inl hz
  ·have hne:¬cap=l'.toNat:=by omega
   rcases g3 with g3 | ⟨b,hb,rfl,g4⟩
   ·omega
   ·refine .inr ⟨b,hb,by simp[hne,Addr.add_lit,jBi],?_⟩;rw[jBi,←jAt,Nat.add_sub_cancel' (by omega)];exact g4
open Classical in
theorem zEo (p:Prop):zAR false p=.lit (.bool (decide p)):=by simp[zAR]
open Classical in
theorem zFq (p:Prop):zAR true p=.lit (.bool (decide (¬p))):=by simp[zAR]
theorem zKf (a b:ByteArray):(a.toList==b.toList)=@decide (a=b) (Classical.propDecidable _):=by
 by_cases hab:a=b
 ·subst hab; simp
 ·have hne:¬a.toList=b.toList:=fun e=>hab (by
   rw[ByteArray.toList_eq,ByteArray.toList_eq]at e;cases a; cases b;simp only at e
   congr
   exact jCb e)
  simp[hab,hne]
open Classical in
theorem zMl {k:SK}{x y:A}{p:Prop}(h:zBF k x y=some p){t:TypeId}(hk:zLu P t=some k)(d:Nat):∃u v,x=.lit u∧y=.lit v∧one u∧one v∧(Op.equalIn (d+1) t u v).run P w=.ok (decide p) w:=by
 unfold zBF at h;unfold zLu at hk;split at h<;>try (cases h; done)
 ·rename_i k a k' b;split at h<;>try (cases h; done)
  rename_i he;subst he;cases h;split at hk<;>try (cases hk; done)
  rename_i D hD;refine⟨_,_,rfl,rfl,rfl,rfl,?_⟩;rw[run_equalIn_int w d t k _ a b hD];by_cases hab:a=b<;>simp[hab]
 ·rename_i a b;cases h;split at hk<;>try (cases hk; done)
  rename_i hD;refine⟨_,_,rfl,rfl,rfl,rfl,?_⟩;rw[run_equalIn_bool' w d t a b hD];cases a<;>cases b<;>simp
 ·rename_i a b;cases h;split at hk<;>try (cases hk; done)
  rename_i hD;refine⟨_,_,rfl,rfl,rfl,rfl,?_⟩;rw[run_equalIn_string w d t a b hD,zKf]
open Classical in
theorem zTy {k:SK}{x y:A}{p:Prop}(h:zBF k x y=some p){t:TypeId}(hk:zLu P t=some k)(xo yo:Operand):∃u v,x=.lit u∧y=.lit v ∧
 (do eqGuard .eql t xo yo u v; binOp .eql t u v:Sem Value).run P w=.ok (.bool (decide p)) w∧(do eqGuard .neq t xo yo u v; binOp .neq t u v:Sem Value).run P w=.ok (.bool (decide ¬p)) w:=by
 unfold zBF at h;unfold zLu at hk;split at h<;>try (cases h; done)
 ·rename_i k a k' b;split at h<;>try (cases h; done)
  rename_i he;subst he;cases h;refine⟨_,_,rfl,rfl,?_,?_⟩
  ·rw[Sem.run_bind,zFP,Result.andThen_ok];by_cases hab:a=b<;>simp[binOp,Op.intCmp,hab]
  ·rw[Sem.run_bind,zFP,Result.andThen_ok];by_cases hab:a=b<;>simp[binOp,Op.intCmp,hab]
 ·rename_i a b;cases h;split at hk<;>try (cases hk; done)
  rename_i hD;refine⟨_,_,rfl,rfl,?_,?_⟩
  ·simp[eqGuard,binOp,Op.equal,Op.maxDepth,run_equalIn_bool' w 9999 t a b hD];cases a<;>cases b<;>simp
  ·simp[eqGuard,binOp,Op.equal,Op.maxDepth,run_equalIn_bool' w 9999 t a b hD];cases a<;>cases b<;>simp
 ·rename_i a b;cases h;refine⟨_,_,rfl,rfl,?_,?_⟩
  ·simp[eqGuard,binOp,Op.stringOp,zKf]
  ·simp[eqGuard,binOp,Op.stringOp,zKf]
theorem zFp {t:TypeId}{k:SK}(h:zLu P t=some k):(isAgg t).run P w=.ok false w:=by
 unfold zLu at h;split at h<;>try (cases h; done)
 all_goals (rename_i hD; rw[zDy hD]; rfl)
open Classical in
theorem zFN (d:Nat):∀(ks:List SK) (fs:List Field) (o:Nat) (xs ys:List A) (p:Prop) (us vs us0 vs0:List Value),zEA P o fs=some ks→yU ks xs ys=some p →
 zN H L xs us→zN H L ys vs→us0.length=o→vs0.length=o→(Op.eqFields (d+1) (us0++us).toArray (vs0++vs).toArray fs).run P w=.ok (decide p) w
 | ks,[],o,xs,ys,p,us,vs,us0,vs0,hf,he,hx,hy,h1,h2=>by
  simp only[zEA,jA0]at hf;subst hf;unfold yU at he;split at he<;>try (cases he; done)
  ·cases he; simp[Op.eqFields]
  ·cases ‹([]:List SK)=_::_›
 | ks,f::fs,o,xs,ys,p,us,vs,us0,vs0,hf,he,hx,hy,h1,h2=>by
  simp only[zEA]at hf;split at hf<;>try (cases hf; done)
  rename_i hof;obtain⟨hof,hnm⟩:=hof;split at hf<;>try (cases hf; done)
  rename_i k ks' hk hks;cases hf;cases xs with
  | nil=>simp[yU]at he
  | cons x xs' =>
  cases ys with
  | nil=>simp[yU]at he
  | cons y ys' =>
  simp only[yU]at he;split at he<;>try (cases he; done)
  rename_i p1 q1 hp1 hq1;cases he;obtain⟨u,us',rfl,hu,hus⟩:=zT hx;obtain⟨v,vs',rfl,hv,hvs⟩:=zT hy;obtain⟨u',v',rfl,rfl,_,_,hrun⟩:=zMl (w:=w) hp1 hk d;simp only[Rel]at hu hv;subst hu;subst hv;have hpu:(part f.type (us0++u::us').toArray f.offset).run P w=.ok u w:=by
   unfold part;rw[Sem.run_bind,zFp hk,Result.andThen_ok];have:(us0++u::us')[f.offset]?=some u:=by rw[hof,←h1]; simp
   simp[this]
  have hpv:(part f.type (vs0++v::vs').toArray f.offset).run P w=.ok v w:=by
   unfold part;rw[Sem.run_bind,zFp hk,Result.andThen_ok];have:(vs0++v::vs')[f.offset]?=some v:=by rw[hof,←h2]; simp
   simp[this]
  have ih:=zFN d ks' fs (o+1) xs' ys' q1 us' vs' (us0++[u]) (vs0++[v]) hks hq1 hus hvs (by simp[h1]) (by simp[h2]);simp only[jB1,jD0]at ih;simp only[Op.eqFields,hnm,ne_eq,not_false_eq_true,if_true,Sem.run_bind,hpu,hpv,Result.andThen_ok,hrun];by_cases hp:p1
  ·simp[hp,ih]
  ·simp[hp]
open Classical in
theorem zM4 {o:Oper}{ng:Bool}{t t':TypeId}{x y:Operand}{k:SK}(ho:o.op=.binOp (if ng then .neq else .eql) t x y t')(hk:zLu P t=some k)(he:zX H L N env a.tmps){r:A}{p:Prop}
 (h:zG env σ (.eqv o.dst ng k x y)=some (p,r)):zAv P H L w a o r:=by
 have hx:=qG he x;have hy:=qG he y;simp only[zG,jAb,jB8]at h;obtain⟨q,hq,_,rfl⟩:=h;obtain⟨u,v,e1,e2,h1,h2⟩:=zTy (w:=w) hq hk x y;rw[e1]at hx;rw[e2]at hy;simp only[Rel]at hx hy;cases ng
 ·refine⟨.bool (decide q),?_,by rw[zEo]; simp only[Rel]⟩;unfold execOp;simp only[jAe,if_false]at ho;simp only[ho];refine qH ?_;rw[hx,hy];exact h1
 ·refine⟨.bool (decide ¬q),?_,by rw[zFq]; simp only[Rel]⟩;unfold execOp;simp only[if_true]at ho;simp only[ho];refine qH ?_;rw[hx,hy];exact h2
open Classical in
theorem zM3 {o:Oper}{ng:Bool}{t t':TypeId}{x y:Operand}{ks:List SK}(ho:o.op=.binOp (if ng then .neq else .eql) t x y t')(hk:zN2 P t=some ks)(he:zX H L N env a.tmps){r:A}{p:Prop}
 (h:zG env σ (.eqs o.dst ng ks x y)=some (p,r)):zAv P H L w a o r:=by
 have hx:=qG he x;have hy:=qG he y;simp only[zG]at h;split at h<;>try (cases h; done)
 rename_i xs ys hxe hye;simp only[jAb,jB8]at h;obtain⟨q,hq,_,rfl⟩:=h;rw[hxe]at hx;rw[hye]at hy;simp only[Rel]at hx hy;obtain⟨us,hu,hu1,_⟩:=hx;obtain⟨vs,hv,hv1,_⟩:=hy;unfold zN2 at hk;split at hk<;>try (cases hk; done)
 rename_i fs hfs;split at hk<;>try (cases hk; done)
 rename_i hb;simp only[jB3,not_or,jB]at hb;have hfo:P.fieldsOf t=fs:=by simp[Program.fieldsOf,hfs]
 have hrun:=zFN (P:=P) (w:=w) 9998 ks fs.toList 0 xs ys q us vs [] [] hk hq hu1 hv1 rfl rfl;simp only[jC8]at hrun;have hst:=run_equalIn_struct (P:=P) w 9999 t us.toArray vs.toArray (by rw[hfo]; exact hfs) hb.1;rw[hfo,hrun]at hst;cases ng
 ·refine⟨.bool (decide q),?_,by rw[zEo]; simp only[Rel]⟩;unfold execOp;simp only[jAe,if_false]at ho;simp only[ho];refine qH ?_;rw[hu,hv,Sem.run_bind,run_eqGuard_agg w _ t x y _ _ hb.2,Result.andThen_ok,run_eql_struct,hst];rfl
 ·refine⟨.bool (decide ¬q),?_,by rw[zFq]; simp only[Rel]⟩;unfold execOp;simp only[if_true]at ho;simp only[ho];refine qH ?_;rw[hu,hv,Sem.run_bind,run_eqGuard_agg w _ t x y _ _ hb.2,Result.andThen_ok,run_neq_struct,hst];simp
theorem zGM:∀{k1 k2:List SK} {xs ys:List A} {p:Prop},yU (k1++k2) xs ys=some p→∃xs1 xs2 ys1 ys2 p1 p2,xs=xs1++xs2∧ys=ys1++ys2∧xs1.length=k1.length∧ys1.length=k1.length∧yU k1 xs1 ys1=some p1∧yU k2 xs2 ys2=some p2∧(p↔p1∧p2)
 | [],k2,xs,ys,p,h=>⟨[],xs,[],ys,True,p,rfl,rfl,rfl,rfl,rfl,h,by simp⟩
 | k::k1,k2,xs,ys,p,h=>by
  cases xs with
  | nil=>simp[yU]at h
  | cons x xs =>
  cases ys with
  | nil=>simp[yU]at h
  | cons y ys =>
  simp only[jB9,yU]at h;split at h<;>try (cases h; done)
  rename_i a b ha hb;cases h;obtain⟨xs1,xs2,ys1,ys2,p1,p2,rfl,rfl,h1,h2,h3,h4,h5⟩:=zGM hb;refine⟨x::xs1,xs2,y::ys1,ys2,a∧p1,p2,rfl,rfl,by simp[h1],by simp[h2],by simp[yU,ha,h3],h4,by rw[h5,and_assoc]⟩
open Classical in
theorem zEQ (d:Nat):∀(fs:List Field) (ks:List SK) (o:Nat) (xs ys:List A) (p:Prop) (us vs us0 vs0:List Value),skN P o fs=some ks→yU ks xs ys=some p →
 zN H L xs us→zN H L ys vs→us0.length=o→vs0.length=o→(Op.eqFields (d+2) (us0++us).toArray (vs0++vs).toArray fs).run P w=.ok (decide p) w
 | [],ks,o,xs,ys,p,us,vs,us0,vs0,hf,he,hx,hy,h1,h2=>by
  simp only[skN,jA0]at hf;subst hf;unfold yU at he;split at he<;>try (cases he; done)
  ·cases he; simp[Op.eqFields]
  ·cases ‹([]:List SK)=_::_›
 | f::fs,ks,o,xs,ys,p,us,vs,us0,vs0,hf,he,hx,hy,h1,h2=>by
  simp only[skN]at hf;split at hf<;>try (cases hf; done)
  rename_i hof;obtain⟨hof,hnm⟩:=hof;split at hf
  ·rename_i k hk;simp only[jAb]at hf;obtain⟨ks',hks,rfl⟩:=hf;cases xs with
   | nil=>simp[yU]at he
   | cons x xs' =>
   cases ys with
   | nil=>simp[yU]at he
   | cons y ys' =>
   simp only[yU]at he;split at he<;>try (cases he; done)
   rename_i p1 q1 hp1 hq1;cases he;obtain⟨u,us',rfl,hu,hus⟩:=zT hx;obtain⟨v,vs',rfl,hv,hvs⟩:=zT hy;obtain⟨u',v',rfl,rfl,_,_,hrun⟩:=zMl (w:=w) hp1 hk (d+1);simp only[Rel]at hu hv;subst hu;subst hv;have hpu:(part f.type (us0++u::us').toArray f.offset).run P w=.ok u w:=by
    unfold part;rw[Sem.run_bind,zFp hk,Result.andThen_ok];have:(us0++u::us')[f.offset]?=some u:=by rw[hof,←h1]; simp
    simp[this]
   have hpv:(part f.type (vs0++v::vs').toArray f.offset).run P w=.ok v w:=by
    unfold part;rw[Sem.run_bind,zFp hk,Result.andThen_ok];have:(vs0++v::vs')[f.offset]?=some v:=by rw[hof,←h2]; simp
    simp[this]
   have ih:=zEQ d fs ks' (o+1) xs' ys' q1 us' vs' (us0++[u]) (vs0++[v]) hks hq1 hus hvs (by simp[h1]) (by simp[h2]);simp only[jB1,jD0]at ih;simp only[Op.eqFields,hnm,ne_eq,not_false_eq_true,if_true,Sem.run_bind,hpu,hpv,Result.andThen_ok,hrun];by_cases hp:p1
   ·simp[hp,ih]
   ·simp[hp]
  ·split at hf<;>try (cases hf; done)
   rename_i gs hgs;split at hf<;>try (cases hf; done)
   rename_i hst;split at hf<;>try (cases hf; done)
   rename_i k1 j hk1 hj;split at hf<;>try (cases hf; done)
   rename_i hsz;simp only[jAb]at hf;obtain⟨k2,hk2,rfl⟩:=hf;obtain⟨xs1,xs2,ys1,ys2,p1,p2,rfl,rfl,g1,g2,g3,g4,g5⟩:=zGM he;obtain⟨us1,us2,rfl,hu1,hu2⟩:=hx.split;obtain⟨vs1,vs2,rfl,hv1,hv2⟩:=hy.split;have l1:us1.length=k1.length:=by rw[hu1.length,g1]
   have l2:vs1.length=k1.length:=by rw[hv1.length,g2]
   have hag:(isAgg f.type).run P w=.ok true w:=by rw[zDy hgs]; rfl
   have hpart:∀(z0 z1 z2:List Value),z0.length=o→z1.length=k1.length→(part f.type (z0++(z1++z2)).toArray f.offset).run P w=.ok (.agg z1.toArray) w:=by
    intro z0 z1 z2 e0 e1;unfold part;rw[Sem.run_bind,hag,Result.andThen_ok];simp only[if_true,Sem.run_bind,yC hj,Result.andThen_ok,hof,hsz];have:(z0++(z1++z2)).toArray.extract o (o+k1.length)=z1.toArray:=by apply jCb;simp[←e0,←e1]
    rw[this];rfl
   have hfo:P.fieldsOf f.type=gs:=by simp[Program.fieldsOf,hgs]
   have hin:=zFN (P:=P) (w:=w) d k1 gs.toList 0 xs1 ys1 p1 us1 vs1 [] [] hk1 g3 hu1 hv1 rfl rfl;simp only[jC8]at hin;have hst2:=run_equalIn_struct (P:=P) w (d+1) f.type us1.toArray vs1.toArray (by rw[hfo]; exact hgs) (by simpa using hst);rw[hfo,hin]at hst2;have ih:=zEQ d fs k2 (o+k1.length) xs2 ys2 p2 us2 vs2 (us0++us1) (vs0++vs1) hk2 g4 hu2 hv2 (by simp[h1,l1]) (by simp[h2,l2]);simp only[jB1]at ih;simp only[Op.eqFields,hnm,ne_eq,not_false_eq_true,if_true,Sem.run_bind,hpart us0 us1 us2 h1 l1,hpart vs0 vs1 vs2 h2 l2,Result.andThen_ok,hst2];by_cases hp:p1
   ·simp[hp,ih,g5]
   ·simp[hp,g5]
open Classical in
theorem zM2 {o:Oper}{ng:Bool}{t t':TypeId}{x y:Operand}{ks:List SK}(ho:o.op=.binOp (if ng then .neq else .eql) t x y t')(hk:zNI P t=some ks)(he:zX H L N env a.tmps){r:A}{p:Prop}
 (h:zG env σ (.eqs o.dst ng ks x y)=some (p,r)):zAv P H L w a o r:=by
 have hx:=qG he x;have hy:=qG he y;simp only[zG]at h;split at h<;>try (cases h; done)
 rename_i xs ys hxe hye;simp only[jAb,jB8]at h;obtain⟨q,hq,_,rfl⟩:=h;rw[hxe]at hx;rw[hye]at hy;simp only[Rel]at hx hy;obtain⟨us,hu,hu1,_⟩:=hx;obtain⟨vs,hv,hv1,_⟩:=hy;unfold zNI at hk;split at hk<;>try (cases hk; done)
 rename_i fs hfs;split at hk<;>try (cases hk; done)
 rename_i hb;simp only[jB3,not_or,jB]at hb;have hfo:P.fieldsOf t=fs:=by simp[Program.fieldsOf,hfs]
 have hrun:=zEQ (P:=P) (w:=w) 9997 fs.toList ks 0 xs ys q us vs [] [] hk hq hu1 hv1 rfl rfl;simp only[jC8]at hrun;have hst:=run_equalIn_struct (P:=P) w 9999 t us.toArray vs.toArray (by rw[hfo]; exact hfs) hb.1;rw[hfo,hrun]at hst;cases ng
 ·refine⟨.bool (decide q),?_,by rw[zEo]; simp only[Rel]⟩;unfold execOp;simp only[jAe,if_false]at ho;simp only[ho];refine qH ?_;rw[hu,hv,Sem.run_bind,run_eqGuard_agg w _ t x y _ _ hb.2,Result.andThen_ok,run_eql_struct,hst];rfl
 ·refine⟨.bool (decide ¬q),?_,by rw[zFq]; simp only[Rel]⟩;unfold execOp;simp only[if_true]at ho;simp only[ho];refine qH ?_;rw[hu,hv,Sem.run_bind,run_eqGuard_agg w _ t x y _ _ hb.2,Result.andThen_ok,run_neq_struct,hst];simp
theorem zM6 {o:Oper}{ng:Bool}{t t':TypeId}{x y:Operand}(ho:o.op=.binOp (if ng then .neq else .eql) t x y t')(hn:zSL P t y=true)(he:zX H L N env a.tmps){r:A}{p:Prop}
 (h:zG env σ (.isp o.dst ng x)=some (p,r)):zAv P H L w a o r:=by
 have hx:=qG he x;unfold zSL at hn;split at hn<;>try (cases hn; done)
 rename_i e hu;have fin:∀(ad:Option Addr),a.eval x=.pointer ad→r=.lit (.bool (ad.isNone != ng))→zAv P H L w a o r:=by
  rintro ad hv rfl;have key:(Op.equal t (.pointer ad) (.pointer none)).run P w=.ok ad.isNone w:=by
   unfold Op.equal Op.maxDepth;unfold Op.equalIn;cases ad with
   | none=>simp[run_underlying hu]
   | some ad=>simp[run_underlying hu]
  refine⟨.bool (ad.isNone != ng),?_,by simp only[Rel]⟩;unfold execOp;cases ng
  ·simp only[jAe,if_false]at ho;simp only[ho,hv];refine qH ?_;simp[Act.eval,eqGuard,binOp,key]
  ·simp only[if_true]at ho;simp only[ho,hv];refine qH ?_;simp[Act.eval,eqGuard,binOp,key]
 simp only[zG]at h;split at h<;>try (cases h; done)
 ·rename_i hxe;cases h;rw[hxe]at hx;simp only[Rel]at hx;exact fin none hx (by cases ng<;>rfl)
 ·rename_i hxe;cases h;rw[hxe]at hx;simp only[Rel]at hx;obtain⟨b,o',us,hx,_⟩:=hx;exact fin (some ⟨b,o',none⟩) hx (by cases ng<;>rfl)
 ·rename_i hxe;cases h;rw[hxe]at hx;simp only[Rel]at hx;obtain⟨li,b,_,_,_,hx⟩:=hx;exact fin _ hx (by cases ng<;>rfl)
theorem zM5 {o:Oper}{ng:Bool}{t t':TypeId}{x y:Operand}(ho:o.op=.binOp (if ng then .neq else .eql) t x y t')(hn:zKY P t y=true)(he:zX H L N env a.tmps){r:A}{p:Prop}
 (h:zG env σ (.isn o.dst ng x)=some (p,r))(hp:p):zAv P H L w a o r:=by
 have hx:=qG he x;unfold zKY at hn;split at hn<;>try (cases hn; done)
 rename_i e hu;have fin:∀(b:Bool),(∃(ad:Option Addr) (n c:Nat),a.eval x=.slice ad n c∧ad.isNone=b)→r=.lit (.bool (b != ng))→zAv P H L w a o r:=by
  rintro b ⟨ad,n,c,hv,hb⟩ rfl;have key:(Op.equal t (.slice ad n c) (.slice none 0 0)).run P w=.ok b w:=by
   subst hb;unfold Op.equal Op.maxDepth;unfold Op.equalIn;cases ad with
   | none=>simp[run_underlying hu]
   | some ad=>simp[run_underlying hu]
  refine⟨.bool (b != ng),?_,by simp only[Rel]⟩;unfold execOp;cases ng
  ·simp only[jAe,if_false]at ho;simp only[ho,hv];refine qH ?_;simp[Act.eval,eqGuard,binOp,key]
  ·simp only[if_true]at ho;simp only[ho,hv];refine qH ?_;simp[Act.eval,eqGuard,binOp,key]
 simp only[zG]at h;split at h<;>try (cases h; done)
 ·rename_i hxe;cases h;rw[hxe]at hx;simp only[Rel]at hx;exact fin true ⟨_,_,_,hx,rfl⟩ (by cases ng<;>rfl)
 ·rename_i n cs hxe;cases h;rw[hxe]at hx;simp only[Rel]at hx;obtain⟨ad,cap,hv,_,_,h3⟩:=hx;rcases h3 with ⟨h3,_⟩ | ⟨b,off,us,rfl,_⟩
  ·exact(hp h3).elim
  ·exact fin false ⟨_,_,_,hv,rfl⟩ (by cases ng<;>rfl)
 ·rename_i n cs hxe;cases h;rw[hxe]at hx;simp only[Rel]at hx;obtain⟨ad,hv,_,h3⟩:=hx;rcases h3 with ⟨h3,_⟩ | ⟨b,off,us,rfl,_⟩
  ·exact(hp h3).elim
  ·exact fin false ⟨_,_,_,hv,rfl⟩ (by cases ng<;>rfl)
theorem zM7 {o:Oper}{ng:Bool}{t t':TypeId}{x y:Operand}(ho:o.op=.binOp (if ng then .neq else .eql) t x y t')(hn:zKY P t y=true){ad:Option Addr}{n cap:Nat}(hv:a.eval x=.slice ad n cap) :
 zAv P H L w a o (.lit (.bool (ad.isNone != ng))):=by
 unfold zKY at hn;split at hn<;>try (cases hn; done)
 rename_i e hu;have key:(Op.equal t (.slice ad n cap) (.slice none 0 0)).run P w=.ok ad.isNone w:=by
  unfold Op.equal Op.maxDepth;unfold Op.equalIn;cases ad with
  | none=>simp[run_underlying hu]
  | some ad=>simp[run_underlying hu]
 refine⟨.bool (ad.isNone != ng),?_,by simp only[Rel]⟩;unfold execOp;cases ng
 ·simp only[jAe,if_false]at ho;simp only[ho,hv];refine qH ?_;simp[Act.eval,eqGuard,binOp,key]
 ·simp only[if_true]at ho;simp only[ho,hv];refine qH ?_;simp[Act.eval,eqGuard,binOp,key]
theorem zYx (hs:RelSt H L σ w){x:A}{v:Value}(hx:Rel H L x v):(x=.nil→v=.slice none 0 0)∧(∀n cs,x=.sl n cs→∃ad cap,v=.slice ad n cap∧(n≠0→ad.isNone=false)) ∧
 ∀l n fz e sz cs,x=.row l n→σ[l]?=some (.row fz e sz n cs)→∃ad cap,v=.slice ad n cap∧(n≠0→ad.isNone=false):=by
 refine⟨fun e=>by subst e; simpa only[Rel] using hx,fun n cs e=>?_,fun l n fz e sz cs he hσ=>?_⟩
 ·subst e;simp only[Rel]at hx;obtain⟨ad,cap,hv,_,_,h3⟩:=hx;refine⟨ad,cap,hv,fun h0=>?_⟩;rcases h3 with ⟨h3,_⟩ | ⟨b,off,us,rfl,_⟩
  ·exact(h0 h3).elim
  ·rfl
 ·subst he;simp only[Rel]at hx;obtain⟨_,li,e1,e2,e3,hv⟩:=hx;have hob:=hs.obj l li _ e1 hσ;simp only[zL]at hob;have hv:=hv (by rw[hob.2.1]);cases hb:li.block with
  | none =>
   rw[hb]at hv;rcases hob.2.2.2 with ⟨_,h0⟩ | ⟨b,cur,hb',_⟩
   ·subst h0; exact⟨_,_,hv,fun h=>(h rfl).elim⟩
   ·rw[hb]at hb'; cases hb'
  | some b=>rw[hb]at hv; exact⟨_,_,hv,fun _=>rfl⟩
end
end Go.Abs
namespace Go.Abs
section
variable {P:Program}{H:Mem}{L:List LI} {σ : St}{w:World}{N:Nat}{env:Env}{a:Act}
theorem zOZ (off:Nat):∀(vs:List Value) (k:Nat) (cs:Array Value),off+k+vs.length≤cs.size →
 ((vs.zipIdx k).foldl (fun cs (p:Value×Nat)=>cs.setIfInBounds (off+p.2) p.1) cs).toList=cs.toList.take (off+k)++vs++cs.toList.drop (off+k+vs.length)
 | [],k,cs,_=>by simp
 | v::vs,k,cs,h=>by
  simp only[jAl]at h;have ih:=zOZ off vs (k+1) (cs.setIfInBounds (off+k) v) (by simpa using by omega);rw[List.zipIdx_cons,jBz,ih];simp only[jDc,jAl];have hk:off+k<cs.toList.length:=by simpa using by omega
  rw[show off+(k+1)=off+k+1 from by omega,jAh (by simpa using hk),List.take_set_of_le (jA _),List.getElem_set_self,
   List.drop_set_of_lt (by omega)]
  simp only[jB1,jD0];rw[show off+k+1+vs.length=off+k+(vs.length+1) from by omega]
theorem zHJ (he:zX H L N env a.tmps)(place:Nat→Option (Nat×Nat)):∀(parts:List (Nat×Operand)) (ps:List (Nat×Nat×Operand)) (zs:List A) (arr:Array Value) (cs:List A),
 zDl place parts=some ps→zBb zs (ps.map fun(o,s,x)=>(o,s,ev env x))=some cs→zN H L zs arr.toList→(∀u∈arr.toList,one u) →
 ∃arr':Array Value,Instr.fill place arr (parts.map fun(i,x)=>(i,a.eval x))=some arr'∧zN H L cs arr'.toList∧∀u∈arr'.toList,one u
 | [],ps,zs,arr,cs,hp,hf,hz,h1=>by simp only[zDl,List.mapM_nil,jD6,jA0]at hp;subst hp;simp only[jB7,zBb,jA0]at hf;subst hf;exact⟨arr,rfl,hz,h1⟩
 | (i,x)::parts,ps,zs,arr,cs,hp,hf,hz,h1=>by
  simp only[zDl,jCz,jD6,jAa,jA5,jAb,jA0]at hp;obtain⟨q,⟨⟨off,size⟩,hpl,rfl⟩,ps',hps,rfl⟩:=hp;simp only[jA9,zBb]at hf;split at hf<;>try (cases hf; done)
  rename_i l hl;split at hf<;>try (cases hf; done)
  rename_i hc;obtain⟨hc1,hc2⟩:=hc;obtain⟨g1,g2⟩:=zGh (qG he x) hl;have hlen:=g1.length;have hzl:=hz.length;have hls:(a.eval x).cells.size=size:=by rw[←jAs,hlen,hc1]
  have hsz:off+(a.eval x).cells.size≤arr.size:=by rw[hls,←jAs,hzl]; exact hc2
  have hfold:(((a.eval x).cells.zipIdx.foldl (fun cs (p:Value×Nat)=>cs.setIfInBounds (off+p.2) p.1) arr)).toList=arr.toList.take off++(a.eval x).cells.toList++arr.toList.drop (off+size):=by have:=zOZ off (a.eval x).cells.toList 0 arr (by simpa using hsz);simp only[jBn,jAs,hls]at this;rw[←this,←Array.foldl_toList,Array.toList_zipIdx]
  obtain⟨arr',k1,k2,k3⟩:=zHJ he place parts ps' _ ((a.eval x).cells.zipIdx.foldl (fun cs (p:Value×Nat)=>cs.setIfInBounds (off+p.2) p.1) arr) cs hps hf
   (by rw[hfold]; exact((hz.take off).append g1).append (hz.drop _))
   (by
    rw[hfold];intro u hu;simp only[jAj]at hu;rcases hu with (hu | hu) | hu
    ·exact h1 u (jCc hu)
    ·exact g2 u hu
    ·exact h1 u (jBo hu))
  refine⟨arr',?_,k2,k3⟩;simp only[jA9,Instr.fill,hpl];rw[if_neg (by simp only[jB3,decide_eq_true_eq,not_or,Decidable.not_not,hls,true_and,Nat.not_lt,ne_eq]; rw[hls]at hsz; exact hsz)];exact k1
theorem zP3 {fs:Array Field}{P:Program}(hall:fs.all (fun f=>(P.info? f.type).isSome)=true) :
 ∃ps:Array (Nat×Nat),(fs.mapM fun f=>(do pure (f.offset,←sizeOf f.type):Sem (Nat×Nat))).run P w=.ok ps w∧∀i:Nat,ps[i]?=zDW P fs.toList i:=by
 obtain⟨l⟩:=fs;have hall':∀f∈l,(P.info? f.type).isSome:=by simpa using hall
 have key:∀(l:List Field),(∀f∈l,(P.info? f.type).isSome)→∃ps:List (Nat×Nat),(l.mapM fun f=>(do pure (f.offset,←sizeOf f.type):Sem (Nat×Nat))).run P w=.ok ps w ∧
  ∀i:Nat,ps[i]?=zDW P l i:=by
  intro l;induction l with
  | nil=>intro _; exact⟨[],by simp,by simp[zDW]⟩
  | cons f l ih =>
   intro h;obtain⟨ps,h1,h2⟩:=ih (fun g hg=>h g (jAf _ hg));obtain⟨j,hj⟩:=Option.isSome_iff_exists.1 (h f (jAk ..));refine⟨(f.offset,j.size)::ps,?_,?_⟩
   ·rw[jCz];simp only[Sem.run_bind,yC hj,Result.andThen_ok,Sem.run_pure,h1]
   ·intro i;cases i with
    | zero=>simp[zDW,hj]
    | succ i=>simpa [zDW] using h2 i
 obtain⟨ps,h1,h2⟩:=key l hall';refine⟨ps.toArray,?_,fun i=>by simpa using h2 i⟩;rw[List.mapM_toArray];simp only[Sem.run_map,h1,Result.andThen_ok]
theorem zJv {o:Oper}{t:TypeId}{parts:Array (Nat×Operand)}{i:TypeInfo}{z:Value}{place:Nat→Option (Nat×Nat)}{ps:List (Nat×Nat×Operand)}(ho:o.op=.build t parts)
 (hi:P.info? t=some i)(hz:i.zero=some z)(hok:zAk z.cells.toList=true)(hps:zDl place parts.toList=some ps)
 (hpl:(∃fs,P.underlying t=some (.struct fs)∧fs.all (fun f=>(P.info? f.type).isSome)=true∧place=zDW P fs.toList) ∨
  (∃n e j,P.underlying t=some (.array n e)∧P.info? e=some j∧place=fun i=>some (i*j.size,j.size)))
 (he:zX H L N env a.tmps){r:A}{p:Prop}(h:zG env σ (.build o.dst z.cells.toList ps)=some (p,r)):zAv P H L w a o r:=by
 simp only[zG,jAb,jB8]at h;obtain⟨cs,hcs,_,rfl⟩:=h;have hone:∀u∈z.cells.toList,one u:=fun u hu=>jAx.1 hok u hu
 obtain⟨arr,h1,h2,h3⟩:=zHJ he place parts.toList ps _ z.cells cs hps hcs (zAO _) hone;refine⟨.agg arr,?_,by simp only[Rel]; exact⟨arr.toList,by simp,h2,h3⟩⟩;unfold execOp;simp only[ho];refine qH ?_;have hmap:(parts.map fun(i,x)=>(i,a.eval x)).toList=parts.toList.map fun(i,x)=>(i,a.eval x):=by simp
 unfold Instr.build;have hzr:(zeroValue t).run P w=.ok z w:=by simp[zeroValue,typeInfo,hi,hz]
 rcases hpl with ⟨fs,hu,hall,rfl⟩ | ⟨n,e,j,hu,hj,rfl⟩
 ·obtain⟨pls,hm1,hm2⟩:=zP3 (w:=w) hall;have hfn:(fun i:Nat=>pls[i]?)=zDW P fs.toList:=funext hm2;simp only[Sem.run_bind,hzr,Result.andThen_ok,run_underlying hu,hm1,hmap];rw[hfn,h1];rfl
 ·simp only[Sem.run_bind,hzr,Result.andThen_ok,run_underlying hu,yC hj,hmap];rw[h1];rfl
end
end Go.Abs

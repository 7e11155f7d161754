/-
  Soundness of the operations that leave the state alone, all of them.
  Soundness of the operations that leave the state alone: comparison, building, slicing; and all in one.
  Soundness: building structs and arrays; all operations that leave the state alone, in one theorem.
  All operations that leave the state alone, in one theorem; how the state goes on when memory is made or written.
-/
import Derived.Test.YtdnelmeboihpkaaGreatDoorX1
import Derived.Laws.StructEq
import Derived.Laws.CopyRow
import Derived.Laws.Tables
set_option linter.unusedVariables false
set_option maxHeartbeats 8000000
set_option maxRecDepth 100000
set_option linter.unusedSimpArgs false
namespace Go.Abs
section
variable {P:Program}{H:Mem}{L:List LI} {σ : St}{w:World}{N:Nat}{env:Env}{a:Act}
def zA1 (P:Program)(H:Mem)(L:List LI)(w:World)(a:Act)(o:Oper)(r:A):Prop :=
 ∃v,(execOp a.eval o).run P w=.ok (.value v) w∧Rel H L r v
theorem qI {s:Sem Value}{v:Value}{w':World}(h:s.run P w=.ok v w'):(do pure (Next.value (←s)):Sem Next).run P w=.ok (.value v) w':=by simp[h]
theorem zVh {o:Oper}{t:TypeId}{x:Operand}{u:TypeDesc}{i:TypeInfo}(ho:o.op=.load t x)(hu:P.underlying t=some u)(hi:P.info? t=some i)
 (he:zX H L N env a.tmps)(hs:RelSt H L σ w){r:A}(h:((ldA σ i.size (ev env x)).bind (zBO (zHu u)))=some r):zA1 P H L w a o r:=by
 rw[jA4]at h;obtain⟨cs,h1,h2⟩:=h;obtain⟨b,off,us,hv,hr,hl,ho1,hc⟩:=zMj hs (qG he x) h1;obtain⟨v,hrun,hrel⟩:=zJn (w:=w) hu hi hc hl hr ho1 h2;refine⟨v,?_,hrel⟩;unfold execOp;simp only[ho];exact qI (by simp[Instr.loadAt,hv,Instr.sureAddr,hrun])
theorem zMg {o:Oper}{x:Operand}(ho:o.op=.move x∨o.op=.assign x)(he:zX H L N env a.tmps):zA1 P H L w a o (ev env x):=by refine⟨a.eval x,?_,qG he x⟩;unfold execOp;rcases ho with ho | ho<;>simp[ho]
theorem zQw {o:Oper}{c x y:Operand}{t:Bool}(ho:o.op=.pick c x y)(he:zX H L N env a.tmps)(hc:ev env c=.lit (.bool t)) :
 zA1 P H L w a o (if t then ev env x else ev env y):=by
 have h:=qG he c;rw[hc]at h;simp only[Rel]at h;refine⟨if t then a.eval x else a.eval y,?_,?_⟩
 ·unfold execOp;simp[ho,h,asBool]
 ·cases t
  ·exact qG he y
  ·exact qG he x
theorem zQt {o:Oper}{s:TypeId}{x:Operand}{f:Nat}{fs:Array Field}{g:Field}{i:TypeInfo}(ho:o.op=.fieldAddr s x f)
 (hu:P.underlying s=some (.struct fs))(hg:fs[f]?=some g)(hi:P.info? g.type=some i)(h0:i.size≠0)(he:zX H L N env a.tmps)(hs:RelSt H L σ w){r:A}{p:Prop}
 (h:zJ env σ (.addr o.dst x g.offset)=some (p,r)):zA1 P H L w a o r:=by
 have hx:=qG he x;have fin:∀b off,a.eval x=.pointer (some ⟨b,off,none⟩)→Rel H L r (.pointer (some ⟨b,off+g.offset,none⟩))→zA1 P H L w a o r:=by intro b off hv hr;refine⟨_,?_,hr⟩;unfold execOp;simp only[ho];refine qI ?_;simp[Instr.fieldAt,run_underlying hu,hg,hv,Instr.sureAddr,fieldPlace,yD hi,h0,Addr.add_lit]
 simp only[zJ]at h;split at h<;>try (cases h; done)
 ·rename_i l off hxe;cases h;rw[hxe]at hx;simp only[Rel]at hx;obtain⟨li,b,e1,e2,e3,hv⟩:=hx;exact fin b off hv (by simp only[Rel]; exact⟨li,b,e1,e2,e3,rfl⟩)
 ·rename_i cs hxe;cases h;rw[hxe]at hx;simp only[Rel]at hx;obtain⟨b,off,us,hv,h1,h2,h3⟩:=hx;exact fin b off hv (by simp only[Rel]; exact⟨b,off+g.offset,us.drop g.offset,rfl,h1.drop _,fun u hu=>h2 u (jBm hu),h3.drop _⟩)
 ·rename_i l n off hxe;rw[hxe]at hx;simp only[Rel]at hx;obtain⟨ho1,li,e1,e2,e3,hv⟩:=hx;split at h<;>try (cases h; done)
  rename_i fz e sz m ds hds;split at h<;>try (cases h; done)
  rename_i hn;cases h;have hob:=hs.obj l li _ e1 hds;simp only[zN]at hob;obtain⟨b,hb,hv⟩:=hv (by rw[hn,hob.2.1]);exact fin b off hv (by simp only[Rel]; exact⟨rfl,li,e1,e2,e3,fun _=>⟨b,hb,rfl⟩⟩)
theorem zD6 (k:IntKind)(j:Int):(asIntOf (.int k j)).run P w=.ok (k,j) w:=rfl
theorem zSJ {o:Oper}{t e:TypeId}{x i:Operand}{ti:TypeInfo}(ho:o.op=.indexAddr t x i)
 (hu:P.underlying t=some (.slice e))(hi:P.info? e=some ti)(he:zX H L N env a.tmps)(hs:RelSt H L σ w){r:A}{p:Prop}
 (h:zJ env σ (.idx o.dst x i ti.size)=some (p,r))(hp:p):zA1 P H L w a o r:=by
 have hx:=qG he x;have hy:=qG he i;have fin:∀b off n cap (k:IntKind) (j:Int),a.eval x=.slice (some ⟨b,off,none⟩) n cap→a.eval i=.int k j→0≤j→j<n →
  Rel H L r (.pointer (some ⟨b,off+j.toNat*ti.size,none⟩))→zA1 P H L w a o r:=by
  intro b off n cap k j hv hj h0 h1 hr;refine⟨_,?_,hr⟩;unfold execOp;simp only[ho];refine qI ?_;simp[Instr.indexAt,run_underlying hu,hv,hj,zD6,yD hi,Addr.add_lit,h0,h1]
 simp only[zJ]at h;split at h<;>try (cases h; done)
 ·rename_i n cs k j hxe hye;cases h;rw[hxe]at hx;rw[hye]at hy;simp only[Rel]at hx hy;obtain⟨ad,cap,hv,h1,h2,h3⟩:=hx;obtain⟨⟨h4,h5⟩,h6⟩:=hp;rcases h3 with ⟨rfl,rfl⟩ | ⟨b,off,us,rfl,g1,g2,g3⟩
  ·simp at h6
  ·exact fin b off n cap k j hv hy h4 h5 (by simp only[Rel]; exact⟨b,_,us.drop _,rfl,g1.drop _,fun u hu=>g2 u (jBm hu),g3.drop _⟩)
 ·rename_i n cs k j hxe hye;cases h;rw[hxe]at hx;rw[hye]at hy;simp only[Rel]at hx hy;obtain⟨ad,hv,h2,h3⟩:=hx;obtain⟨⟨h4,h5⟩,h6⟩:=hp;rcases h3 with ⟨rfl,rfl⟩ | ⟨b,off,us,rfl,g1,g2,g3⟩
  ·simp at h6
  ·exact fin b off n n k j hv hy h4 h5 (by simp only[Rel]; exact⟨b,_,us.drop _,rfl,g1.drop _,fun u hu=>g2 u (jBm hu),g3.drop _⟩)
 ·rename_i l n k j hxe hye;split at h<;>try (cases h; done)
  rename_i fz e' sz m ds hds;split at h<;>try (cases h; done)
  rename_i hn;obtain⟨hn,rfl⟩:=hn;cases h;rw[hxe]at hx;rw[hye]at hy;simp only[Rel]at hx hy;obtain⟨ho1,li,e1,e2,e3,hv⟩:=hx;have hob:=hs.obj l li _ e1 hds;simp only[zN]at hob;obtain⟨_,hlen,_,hob⟩:=hob;have hv:=hv (by rw[hn,hlen]);rcases hob with ⟨_,h0⟩ | ⟨b,cur,hb,_⟩
  ·exfalso; have:=hp.1; have:=hp.2; omega
  ·rw[hb]at hv;simp only at hv;have:=fin b 0 n li.cap k j hv hy hp.1 hp.2 (by simp only[Rel]; exact⟨rfl,li,e1,e2,e3,fun _=>⟨b,hb,by simp⟩⟩);exact this
 ·rename_i l n off k' _ k j hxe hye;split at h<;>try (cases h; done)
  rename_i fz e' sz m ds hds;split at h<;>try (cases h; done)
  rename_i hn;obtain⟨hn,rfl⟩:=hn;cases h;rw[hxe]at hx;rw[hye]at hy;simp only[Rel]at hx hy;obtain⟨ho1,li,e1,e2,e3,hv⟩:=hx;have hob:=hs.obj l li _ e1 hds;simp only[zN]at hob;obtain⟨_,hlen,_,hob⟩:=hob;obtain⟨_,ad,cap,hv,_,_,g3⟩:=hv (by rw[hn,hlen]);rcases g3 with g3 | ⟨b,hb,rfl,_⟩
  ·exfalso; have:=hp.1; have:=hp.2; omega
  ·exact fin b off k' cap k j hv hy hp.1 hp.2 (by simp only[Rel]; exact⟨rfl,li,e1,e2,e3,fun _=>⟨b,hb,rfl⟩⟩)
theorem zMZ {o:Oper}{t e:TypeId}{x i:Operand}{ti:TypeInfo}{n:Nat}(ho:o.op=.indexAddr t x i)
 (hu:P.underlying t=some (.array n e))(hi:P.info? e=some ti)(he:zX H L N env a.tmps){r:A}{p:Prop}
 (h:zJ env σ (.idxarr o.dst x i n ti.size)=some (p,r))(hp:p):zA1 P H L w a o r:=by
 have hx:=qG he x;have hy:=qG he i;simp only[zJ]at h;split at h<;>try (cases h; done)
 rotate_left
 ·rename_i cs k j hxe hye;cases h;rw[hxe]at hx;rw[hye]at hy;simp only[Rel]at hx hy;obtain⟨b,off,us,hv,g1,g2,g3⟩:=hx;refine⟨.pointer (some ⟨b,off+j.toNat*ti.size,none⟩),?_,by simp only[Rel]; exact⟨b,_,_,rfl,g1.drop _,fun u hu=>g2 u (jBm hu),g3.drop _⟩⟩;unfold execOp;simp only[ho];refine qI ?_;simp[Instr.indexAt,Instr.sureAddr,run_underlying hu,hv,hy,zD6,yD hi,Addr.add_lit,hp.1.1,hp.1.2]
 rename_i l off k j hxe hye;cases h;rw[hxe]at hx;rw[hye]at hy;simp only[Rel]at hx hy;obtain⟨li,b,e1,e2,e3,hv⟩:=hx;refine⟨.pointer (some ⟨b,off+j.toNat*ti.size,none⟩),?_,by simp only[Rel]; exact⟨li,b,e1,e2,e3,rfl⟩⟩;unfold execOp;simp only[ho];refine qI ?_;simp[Instr.indexAt,Instr.sureAddr,run_underlying hu,hv,hy,zD6,yD hi,Addr.add_lit,hp.1,hp.2]
theorem zPr {t:TypeId}{u:TypeDesc}{i:TypeInfo}(hu:P.underlying t=some u)(hi:P.info? t=some i){vs:List Value}{cs:List A}(hr:zQ H L cs vs)(h1:∀x∈vs,one x)
 {off:Nat}{r:A}(h:(sub cs off i.size).bind (zBO (zHu u))=some r):∃v,(part t vs.toArray off).run P w=.ok v w∧Rel H L r v:=by
 rw[jA4]at h;obtain⟨ds,g1,g2⟩:=h;obtain⟨g3,g4⟩:=zJ8 g1 hr;unfold part;rw[Sem.run_bind,zDk hu,Result.andThen_ok];cases hag:zHu u with
 | true =>
  rw[hag]at g2;simp only[zBO,jA0]at g2;subst g2;refine⟨.agg ((vs.drop off).take i.size).toArray,?_,by simp only[Rel]; exact⟨_,rfl,g3,zAX h1⟩⟩;simp only[if_true,Sem.run_bind,yD hi,Result.andThen_ok,Sem.run_pure]
  congr 2
  apply jCa;simp[List.extract_eq_take_drop]
 | false =>
  rw[hag]at g2;cases ds with
  | nil=>simp[zBO]at g2
  | cons c ds =>
   cases ds with
   | cons c' ds=>simp[zBO]at g2
   | nil =>
    simp only[zBO,jA0]at g2;subst g2;obtain⟨v,us,e,k1,k2⟩:=zS g3;have hv:vs[off]?=some v:=by
     have:((vs.drop off).take i.size)[0]?=some v:=by rw[e]; rfl
     simpa using zCC this
    refine⟨v,?_,k1⟩;simp[hv]
theorem zSI {o:Oper}{t:TypeId}{x:Operand}{f:Nat}{fs:Array Field}{g:Field}{u:TypeDesc}{i:TypeInfo}(ho:o.op=.field t x f)
 (hut:P.underlying t=some (.struct fs))(hg:fs[f]?=some g)(hu:P.underlying g.type=some u)(hi:P.info? g.type=some i)(he:zX H L N env a.tmps){r:A}{p:Prop}
 (h:zJ env σ (.fld o.dst x g.offset i.size (zHu u))=some (p,r)):zA1 P H L w a o r:=by
 have hx:=qG he x;simp only[zJ]at h;split at h<;>try (cases h; done)
 rename_i cs hxe;rw[hxe]at hx;simp only[Rel]at hx;obtain⟨vs,hv,h1,h2⟩:=hx;simp only[jAe,jB8]at h;obtain⟨r',h3,_,rfl⟩:=h;obtain⟨v,hrun,hrel⟩:=zPr (w:=w) hu hi h1 h2 h3;refine⟨v,?_,hrel⟩;unfold execOp;simp only[ho];refine qI ?_;simp[Instr.field,run_underlying hut,hg,hv,asAgg,hrun]
theorem zVg {o:Oper}{t e:TypeId}{x y:Operand}{n:Nat}{u:TypeDesc}{i:TypeInfo}(ho:o.op=.index t x y)
 (hut:P.underlying t=some (.array n e))(hu:P.underlying e=some u)(hi:P.info? e=some i)(he:zX H L N env a.tmps){r:A}{p:Prop}
 (h:zJ env σ (.ix o.dst x y n i.size (zHu u))=some (p,r))(hp:p):zA1 P H L w a o r:=by
 have hx:=qG he x;have hy:=qG he y;simp only[zJ]at h;split at h<;>try (cases h; done)
 rename_i cs k j hxe hye;rw[hxe]at hx;rw[hye]at hy;simp only[Rel]at hx hy;obtain⟨vs,hv,h1,h2⟩:=hx;simp only[jAe,jB8]at h;obtain⟨r',h3,rfl,rfl⟩:=h;obtain⟨v,hrun,hrel⟩:=zPr (w:=w) hu hi h1 h2 h3;refine⟨v,?_,hrel⟩;unfold execOp;simp only[ho];refine qI ?_;simp[Instr.index,run_underlying hut,hv,hy,zD6,hp.1,hp.2,yD hi,hrun]
theorem zFB (op:BinOp)(t:TypeId)(x y:Operand)(k k':IntKind)(m n:Int):(eqGuard op t x y (.int k m) (.int k' n)).run P w=.ok () w:=by unfold eqGuard;cases op<;>rfl
theorem zSF {o:Oper}{op:BinOp}{t t':TypeId}{x y:Operand}(ho:o.op=.binOp op t x y t')(he:zX H L N env a.tmps){r:A}{p:Prop}
 (h:zJ env σ (.bin o.dst op x y)=some (p,r))(hp:p):zA1 P H L w a o r:=by
 have hx:=qG he x;have hy:=qG he y;simp only[zJ]at h;split at h<;>try (cases h; done)
 case h_2 sa sb hxe hye =>
  rw[hxe]at hx;rw[hye]at hy;simp only[Rel]at hx hy;cases op<;>simp only[zWg]at h<;>try (cases h; done)
  simp only[jA0,jB8]at h;obtain⟨rfl,rfl⟩:=h;refine⟨.string (sa++sb),?_,by simp[Rel]⟩;unfold execOp;simp only[ho];refine qI ?_;have e2:IntKind.i64.max=9223372036854775807:=by decide
  have hle:¬((sa.size+sb.size:Nat):Int) > IntKind.i64.max:=by rw[e2]; omega
  rw[hx,hy];simp only[eqGuard,binOp,Op.stringOp];rw[if_neg hle];rfl
 rename_i k m k' n hxe hye;split at h<;>try (cases h; done)
 rename_i hk;subst hk;rw[hxe]at hx;rw[hye]at hy;simp only[Rel]at hx hy;have fin:∀v,(binOp op t (.int k m) (.int k n)).run P w=.ok v w→Rel H L r v→zA1 P H L w a o r:=by intro v hr hrel;refine⟨v,?_,hrel⟩;unfold execOp;simp only[ho];refine qI ?_;rw[Sem.run_bind,hx,hy,zFB,Result.andThen_ok,hr]
 cases op<;>simp only[zEi]at h<;>try (cases h; done)
 all_goals (simp only[jA0,jB8]at h; obtain⟨hpp,hrr⟩:=h; subst hrr; subst hpp)
 case h_1.isTrue.add=>exact fin (.int k (k.wrap (m+n))) (by simp[binOp,Op.intArith]) (by simp[Rel])
 case h_1.isTrue.sub=>exact fin (.int k (k.wrap (m-n))) (by simp[binOp,Op.intArith]) (by simp[Rel])
 case h_1.isTrue.mul=>exact fin (.int k (k.wrap (m*n))) (by simp[binOp,Op.intArith]) (by simp[Rel])
 case h_1.isTrue.quo=>exact fin (.int k (k.wrap (m.tdiv n))) (by simp[binOp,Op.intDiv,hp]) (by simp[Rel])
 case h_1.isTrue.rem=>exact fin (.int k (m.tmod n)) (by simp[binOp,Op.intDiv,hp]) (by simp[Rel])
 case h_1.isTrue.lss=>exact fin (.bool (decide (m<n))) (by simp[binOp,Op.intCmp]) (by simp[Rel])
 case h_1.isTrue.leq=>exact fin (.bool (decide (m≤n))) (by simp[binOp,Op.intCmp]) (by simp[Rel])
 case h_1.isTrue.gtr=>exact fin (.bool (decide (n<m))) (by simp[binOp,Op.intCmp]) (by simp[Rel])
 case h_1.isTrue.geq=>exact fin (.bool (decide (n≤m))) (by simp[binOp,Op.intCmp]) (by simp[Rel])
theorem zSL {o:Oper}{t:TypeId}{x:Operand}{u:TypeDesc}(ho:o.op=.makeInterface t x)(hu:P.underlying t=some u)(hn:∀ms,u≠.interface ms)(he:zX H L N env a.tmps){r:A}{p:Prop}
 (h:zJ env σ (.mki o.dst t x)=some (p,r)):zA1 P H L w a o r:=by
 have hx:=qG he x;simp only[zJ,jA0,jB8]at h;obtain⟨_,rfl⟩:=h;refine⟨.iface t (a.eval x),?_,?_⟩
 ·unfold execOp;simp only[ho];refine qI ?_;simp only[Instr.makeInterface,Sem.run_bind,run_underlying hu,Result.andThen_ok];cases u<;>first | rfl | exact(hn _ rfl).elim
 ·split
  ·rename_i v hv;rw[hv]at hx;simp only[Rel]at hx;simp[Rel,hx]
  ·simp[Rel]
theorem zSM {o:Oper}{t:TypeId}{x:Operand}(ho:o.op=.unOp .neg t x)(he:zX H L N env a.tmps){r:A}{p:Prop}
 (h:zJ env σ (.neg o.dst x)=some (p,r)):zA1 P H L w a o r:=by
 have hx:=qG he x;simp only[zJ]at h;split at h<;>try (cases h; done)
 rename_i k m hxe;cases h;rw[hxe]at hx;simp only[Rel]at hx;refine⟨.int k (k.wrap (0-m)),?_,by simp[Rel]⟩;unfold execOp;simp[ho,hx,Op.unary,Op.intArith]
theorem zSN {o:Oper}{t:TypeId}{x:Operand}(ho:o.op=.unOp .not t x)(he:zX H L N env a.tmps){r:A}{p:Prop}
 (h:zJ env σ (.not o.dst x)=some (p,r)):zA1 P H L w a o r:=by
 have hx:=qG he x;simp only[zJ]at h;split at h<;>try (cases h; done)
 rename_i b hxe;cases h;rw[hxe]at hx;simp only[Rel]at hx;refine⟨.bool !b,?_,by simp[Rel]⟩;unfold execOp;simp[ho,hx,Op.unary]
theorem zSH {o:Oper}{x:Operand}{i:Nat}(ho:o.op=.extract x i)(he:zX H L N env a.tmps){r:A}{p:Prop}
 (h:zJ env σ (.ext o.dst x i)=some (p,r)):zA1 P H L w a o r:=by
 have hx:=qG he x;simp only[zJ]at h;split at h<;>try (cases h; done)
 rename_i cs hxe;rw[hxe]at hx;simp only[Rel]at hx;obtain⟨vs,hv,h1⟩:=hx;simp only[jAe,jB8]at h;obtain⟨r',h3,_,rfl⟩:=h;obtain⟨v,hg,hrel⟩:=h1.get h3;refine⟨v,?_,hrel⟩;unfold execOp;simp[ho,hv,Instr.extract,hg]
theorem zQv {o:Oper}{x:Operand}(ho:o.op=.nilCheck x)(he:zX H L N env a.tmps){r:A}{p:Prop}
 (h:zJ env σ (.nilc o.dst x)=some (p,r)):zA1 P H L w a o r:=by
 have hx:=qG he x;simp only[zJ]at h;split at h<;>try (cases h; done)
 all_goals
  rename_i hxe;cases h;rw[hxe]at hx;have hx':=hx;simp only[Rel]at hx'
 ·obtain⟨li,b,_,_,_,hv⟩:=hx';refine⟨_,?_,hx⟩;unfold execOp;simp only[ho,hv];rfl
 ·obtain⟨b,o',us,hv,_⟩:=hx';refine⟨_,?_,hx⟩;unfold execOp;simp only[ho,hv];rfl
theorem zGu (he:zX H L N env a.tmps):∀(xs:List Operand),zQ H L (xs.map (ev env)) (xs.map a.eval)
 | []=>jF
 | x::xs=>qH (qG he x) (zGu he xs)
theorem zSG {o:Oper}{f:FuncId}{first cap:Array Operand}(ho:o.op=.makeFunc (.func f) first cap)(he:zX H L N env a.tmps) :
 zA1 P H L w a o (.clo f (first.toList.map (ev env)) (cap.toList.map (ev env))):=by
 refine⟨.func (.func f) (first.map a.eval) (cap.map a.eval),?_,?_⟩
 ·unfold execOp;simp[ho,Instr.makeFunc]
 ·simp only[Rel];refine⟨first.toList.map a.eval,cap.toList.map a.eval,?_,zGu he _,zGu he _⟩
  congr 1<;>exact jCa (by simp)
theorem zSK {o:Oper}{c:Call}{t e:TypeId}{x:Operand}(ho:o.op=.call c)(hc:c.callee=.builtin .len)(ha:c.args.toList=[x])(ht:c.argTypes[0]?=some t)
 (hu:P.underlying t=some (.slice e))(he:zX H L N env a.tmps)(hs:RelSt H L σ w){r:A}{p:Prop}
 (h:zJ env σ (.len o.dst false x)=some (p,r)):zA1 P H L w a o r:=by
 have hx:=qG he x;have ha':c.args = #[x]:=by cases hh:c.args; simp_all
 have fin:∀(n:Nat) ad cap,a.eval x=.slice ad n cap→r=.lit (.int .i64 n)→zA1 P H L w a o r:=by rintro n ad cap hv rfl;refine⟨.int .i64 n,?_,by simp[Rel]⟩;unfold execOp;simp[ho,resolve,hc,invoke,builtin,ha',hv,Builtin.len_,ht,run_underlying hu,goInt]
 simp only[zJ]at h;split at h<;>try (cases h; done)
 ·rename_i hxe;rw[hxe]at hx;simp only[Rel]at hx;cases h;exact fin 0 _ _ hx rfl
 ·rename_i n cs hxe;rw[hxe]at hx;simp only[Rel]at hx;obtain⟨ad,cap,hv,_⟩:=hx;cases h;exact fin n _ _ hv rfl
 ·rename_i n cs hxe;rw[hxe]at hx;simp only[Rel]at hx;obtain⟨ad,hv,_⟩:=hx;cases h;exact fin n _ _ hv rfl
 ·rename_i l n hxe;rw[hxe]at hx;simp only[Rel]at hx;split at h<;>try (cases h; done)
  rename_i fz e' sz m ds hds;split at h<;>try (cases h; done)
  rename_i hn;cases h;obtain⟨_,li,e1,e2,e3,hv⟩:=hx;have hob:=hs.obj l li _ e1 hds;simp only[zN]at hob;have hv:=hv (by rw[hn,hob.2.1]);cases hb:li.block with
  | none =>
   rw[hb]at hv;rcases hob.2.2.2 with ⟨_,h0⟩ | ⟨b,cur,hb',_⟩
   ·subst hn; subst h0; exact fin _ _ _ hv rfl
   ·rw[hb]at hb'; cases hb'
  | some b=>rw[hb]at hv; exact fin _ _ _ hv rfl
 ·rename_i l n off k' _ hxe;rw[hxe]at hx;simp only[Rel]at hx;split at h<;>try (cases h; done)
  rename_i fz e' sz m ds hds;split at h<;>try (cases h; done)
  rename_i hn;cases h;obtain⟨_,li,e1,e2,e3,hv⟩:=hx;have hob:=hs.obj l li _ e1 hds;simp only[zN]at hob;obtain⟨_,ad,cap,hv,_⟩:=hv (by rw[hn,hob.2.1]);exact fin _ _ _ hv rfl
theorem zQu {o:Oper}{c:Call}{t:TypeId}{x:Operand}(ho:o.op=.call c)(hc:c.callee=.builtin .len)(ha:c.args.toList=[x])(ht:c.argTypes[0]?=some t)
 (hu:P.underlying t=some .string)(he:zX H L N env a.tmps){r:A}{p:Prop}
 (h:zJ env σ (.len o.dst true x)=some (p,r)):zA1 P H L w a o r:=by
 have hx:=qG he x;have ha':c.args = #[x]:=by cases hh:c.args; simp_all
 simp only[zJ]at h;split at h<;>try (cases h; done)
 rename_i s hxe;rw[hxe]at hx;simp only[Rel]at hx;cases h;refine⟨.int .i64 s.size,?_,by simp[Rel]⟩;unfold execOp;simp[ho,resolve,hc,invoke,builtin,ha',hx,Builtin.len_,ht,run_underlying hu,goInt]
theorem zK3 (mx:Bool):∀(xs:List A) (vs:List Value) (k:IntKind) (m:Int) (r:A),zQ H L xs vs→zFN mx m xs k=some r →
 ∃v,(vs.foldlM (if mx then Builtin.max2 else Builtin.min2) (.int k m)).run P w=.ok v w∧Rel H L r v
 | [],vs,k,m,r,hr,h=>by have:=qY hr;subst this;simp only[zFN,jA0]at h;subst h;exact⟨.int k m,by simp,by simp[Rel]⟩
 | x::xs,vs,k,m,r,hr,h=>by
  obtain⟨u,us,rfl,h1,h2⟩:=zS hr;unfold zFN at h;split at h<;>try (cases h; done)
  ·rename_i heq; cases heq
  ·rename_i k' b rest heq;cases heq;split at h<;>try (cases h; done)
   rename_i hk;subst hk;simp only[Rel]at h1;subst h1;obtain⟨v,hrun,hrel⟩:=zK3 mx xs us k' _ r h2 h;refine⟨v,?_,hrel⟩;rw[List.foldlM_cons,Sem.run_bind];cases mx
   ·simpa [Builtin.min2] using hrun
   ·simpa [Builtin.max2] using hrun
theorem zOC {o:Oper}{c:Call}{mx:Bool}(ho:o.op=.call c)(hc:c.callee=.builtin (if mx then .max else .min))(he:zX H L N env a.tmps){r:A}{p:Prop}
 (h:zJ env σ (.mm o.dst mx c.args.toList)=some (p,r)):zA1 P H L w a o r:=by
 have hx:=zGu he c.args.toList;simp only[zJ]at h;split at h<;>try (cases h; done)
 rename_i k m rest hm;simp only[jAe,jB8]at h;obtain⟨r',h3,_,rfl⟩:=h;rw[hm]at hx;obtain⟨u,us,e,h1,h2⟩:=zS hx;simp only[Rel]at h1;subst h1;obtain⟨v,hrun,hrel⟩:=zK3 (P:=P) (w:=w) mx rest us k m r' h2 h3;refine⟨v,?_,hrel⟩;unfold execOp;cases mx
 ·simp only[jAg,if_false]at hc hrun;simp[ho,resolve,hc,invoke,builtin,Builtin.min_,e,hrun]
 ·simp only[if_true]at hc hrun;simp[ho,resolve,hc,invoke,builtin,Builtin.max_,e,hrun]
end
end Go.Abs
namespace Go.Abs
section
variable {P:Program}{H:Mem}{L:List LI} {σ : St}{w:World}{N:Nat}{env:Env}{a:Act}
theorem zC1 (he:zX H L N env a.tmps){d:Nat}{x:Operand}{l:Int}(h:qM env d (some x)=some l):∃k,a.eval x=.int k l:=by
 have hx:=qG he x;simp only[qM]at h;split at h<;>try (cases h; done)
 rename_i k j hxe;cases h;rw[hxe]at hx;simp only[Rel]at hx;exact⟨k,hx⟩
theorem zAp {k:IntKind}{i:Int}{y:Nat}{code:BoundsCode}(h0:0≤i)(h1:i≤y):(Instr.sliceBound (.int k i) y code).run P w=.ok i.toNat w:=by simp[Instr.sliceBound,asIntOf,h0,h1]
theorem zA6 (he:zX H L N env a.tmps){n cap:Nat}{lo hi:Option Operand}{l h:Int}(hl:qM env 0 lo=some l)(hh:qM env n hi=some h)
 (h0:0≤l)(h1:l≤h)(h2:h≤n)(hc:n≤cap):(Instr.sliceBounds true n cap (lo.map a.eval) (hi.map a.eval) none).run P w=.ok (l.toNat,h.toNat,cap) w:=by
 unfold Instr.sliceBounds;cases hi with
 | none =>
  simp only[qM,jA0]at hh;subst hh;cases lo with
  | none =>
   simp only[qM,jA0]at hl;subst hl;simp
  | some x =>
   obtain⟨k,hx⟩:=zC1 he hl;have h1':l≤((n:Nat):Int):=h1;simp[hx,zAp h0 h1']
 | some y =>
  obtain⟨k,hy⟩:=zC1 he hh;have h0':0≤h:=by omega
  have h2':h≤((cap:Nat):Int):=by omega
  cases lo with
  | none =>
   simp only[qM,jA0]at hl;subst hl;simp[hy,zAp h0' h2']
  | some x =>
   obtain⟨k',hx⟩:=zC1 he hl;have h1':l≤((h.toNat:Nat):Int):=by omega
   simp[hy,hx,zAp h0' h2',zAp h0 h1']
theorem zCu (he:zX H L N env a.tmps){n cap:Nat}{lo:Option Operand}{hi mx:Operand}{l h m:Int}(hl:qM env 0 lo=some l)(hh:qM env n (some hi)=some h)
 (hm:qM env n (some mx)=some m)(h0:0≤l)(h1:l≤h)(h2:h≤n)(hmh:m=h)(hc:n≤cap) :
 (Instr.sliceBounds true n cap (lo.map a.eval) (some (a.eval hi)) (some (a.eval mx))).run P w=.ok (l.toNat,h.toNat,h.toNat) w:=by
 subst hmh;obtain⟨k,hy⟩:=zC1 he hh;obtain⟨k',hz⟩:=zC1 he hm;have h0':0≤m:=by omega
 have h2':m≤((cap:Nat):Int):=by omega
 have h3':m≤((m.toNat:Nat):Int):=by omega
 unfold Instr.sliceBounds;cases lo with
 | none =>
  simp only[qM,jA0]at hl;subst hl;simp[hy,hz,zAp h0' h2',zAp h0' h3']
 | some x =>
  obtain⟨k'',hx⟩:=zC1 he hl;have h1':l≤((m.toNat:Nat):Int):=by omega
  simp[hy,hz,hx,zAp h0' h2',zAp h0' h3',zAp h0 h1']
theorem zSO {o:Oper}{t e:TypeId}{x:Operand}{lo hi mx:Option Operand}{i:TypeInfo}(ho:o.op=.slice t x lo hi mx)
 (hu:P.underlying t=some (.slice e))(hi':P.info? e=some i)(he:zX H L N env a.tmps){r:A}{p:Prop}
 (h:zJ env σ (.slc o.dst x i.size lo hi mx)=some (p,r))(hp:p):zA1 P H L w a o r:=by
 have hx:=qG he x;have fin:∀ad n cap l h m,a.eval x=.slice ad n cap→(Instr.sliceBounds true n cap (lo.map a.eval) (hi.map a.eval) (mx.map a.eval)).run P w=.ok (l,h,m) w →
  Rel H L r (.slice (if m=l then ad else ad.map (·.add (l*i.size))) (h-l) (m-l))→zA1 P H L w a o r:=by
  intro ad n cap l h m hv hb hr;refine⟨_,?_,hr⟩;unfold execOp;simp only[ho];refine qI ?_;simp[Instr.sliceAt,Instr.slice,run_underlying hu,hv,hb,yD hi']
 have part2:∀(ad:Option Addr) (n cap:Nat) (cs:List A) (l h:Int),n≤cap→cap≤maxLen→(n=0∧cs=[]∨∃b o,∃us:List Value,ad=some ⟨b,o,none⟩∧zQ H L cs us∧(∀u∈us,one u)∧At H b o us) →
  0≤l→l≤h→h≤n→Rel H L (.sl (h-l).toNat ((cs.drop (l.toNat*i.size)).take ((h-l).toNat*i.size))) (.slice (if cap=l.toNat then ad else ad.map (·.add (l.toNat*i.size))) (h.toNat-l.toNat) (cap-l.toNat)):=by
  intro ad n cap cs l h hc hm hcs h0 h1 h2;have e1:h.toNat-l.toNat=(h-l).toNat:=by omega
  simp only[Rel,e1];refine⟨_,_,rfl,by omega,by omega,?_⟩;by_cases hz:(h-l).toNat=0
  ·exact .inl ⟨hz,by simp[hz]⟩
  ·right;have hne:¬cap=l.toNat:=by omega
   rcases hcs with ⟨rfl,rfl⟩ | ⟨b,off,us,rfl,g1,g2,g3⟩
   ·omega
   ·refine⟨b,off+l.toNat*i.size,_,?_,(g1.drop _).take _,zAX g2,(g3.drop _).take _⟩;simp[hne,Addr.add_lit]
 have part3:∀(ad:Option Addr) (n cap:Nat) (cs:List A) (l h:Int),n≤cap→cap≤maxLen→(n=0∧cs=[]∨∃b o,∃us:List Value,ad=some ⟨b,o,none⟩∧zQ H L cs us∧(∀u∈us,one u)∧At H b o us) →
  0≤l→l≤h→h≤n→Rel H L (.fsl (h-l).toNat ((cs.drop (l.toNat*i.size)).take ((h-l).toNat*i.size))) (.slice (if h.toNat=l.toNat then ad else ad.map (·.add (l.toNat*i.size))) (h.toNat-l.toNat) (h.toNat-l.toNat)):=by
  intro ad n cap cs l h hc hm hcs h0 h1 h2;have e1:h.toNat-l.toNat=(h-l).toNat:=by omega
  simp only[Rel,e1];refine⟨_,rfl,by omega,?_⟩;by_cases hz:(h-l).toNat=0
  ·exact .inl ⟨hz,by simp[hz]⟩
  ·right;have hne:¬h.toNat=l.toNat:=by omega
   rcases hcs with ⟨rfl,rfl⟩ | ⟨b,off,us,rfl,g1,g2,g3⟩
   ·omega
   ·refine⟨b,off+l.toNat*i.size,_,?_,(g1.drop _).take _,zAX g2,(g3.drop _).take _⟩;simp[hne,Addr.add_lit]
 cases mx with
 | none =>
  simp only[zJ]at h;split at h<;>try (cases h; done)
  ·rename_i n cs hxe;split at h<;>try (cases h; done)
   rename_i l hh hl hhb;cases h;rw[hxe]at hx;simp only[Rel]at hx;obtain⟨ad,cap,hv,g1,g2,g3⟩:=hx;exact fin ad n cap _ _ _ hv (zA6 he hl hhb hp.1 hp.2.1 hp.2.2 g1) (part2 ad n cap cs l hh g1 g2 g3 hp.1 hp.2.1 hp.2.2)
  ·rename_i n cs hxe;split at h<;>try (cases h; done)
   rename_i l hh hl hhb;cases h;rw[hxe]at hx;simp only[Rel]at hx;obtain⟨ad,hv,g2,g3⟩:=hx;exact fin ad n n _ _ _ hv (zA6 he hl hhb hp.1 hp.2.1 hp.2.2 (jA _)) (part2 ad n n cs l hh (jA _) g2 g3 hp.1 hp.2.1 hp.2.2)
  ·rename_i hxe;split at h<;>try (cases h; done)
   rename_i l hh hl hhb;cases h;rw[hxe]at hx;simp only[Rel]at hx;obtain⟨rfl,rfl⟩:=hp;exact fin none 0 0 _ _ _ hx (zA6 (n:=0) (cap:=0) he hl hhb (by omega) (by omega) (by simp) (by omega)) (by simp[Rel])
 | some mx =>
  cases hi with
  | none=>simp only[zJ]at h; cases h
  | some hi =>
   simp only[zJ]at h;split at h<;>try (cases h; done)
   ·rename_i n cs hxe;split at h<;>try (cases h; done)
    rename_i l hh m hl hhb hmb;cases h;rw[hxe]at hx;simp only[Rel]at hx;obtain⟨ad,cap,hv,g1,g2,g3⟩:=hx;exact fin ad n cap _ _ _ hv (zCu he hl hhb hmb hp.1.1 hp.1.2.1 hp.1.2.2 hp.2 g1) (part3 ad n cap cs l hh g1 g2 g3 hp.1.1 hp.1.2.1 hp.1.2.2)
   ·rename_i n cs hxe;split at h<;>try (cases h; done)
    rename_i l hh m hl hhb hmb;cases h;rw[hxe]at hx;simp only[Rel]at hx;obtain⟨ad,hv,g2,g3⟩:=hx;exact fin ad n n _ _ _ hv (zCu he hl hhb hmb hp.1.1 hp.1.2.1 hp.1.2.2 hp.2 (jA _)) (part3 ad n n cs l hh (jA _) g2 g3 hp.1.1 hp.1.2.1 hp.1.2.2)
   ·rename_i hxe;split at h<;>try (cases h; done)
    rename_i l hh m hl hhb hmb;cases h;rw[hxe]at hx;simp only[Rel]at hx;obtain⟨⟨rfl,rfl⟩,rfl⟩:=hp;exact fin none 0 0 _ _ _ hx (zCu (n:=0) (cap:=0) he hl hhb hmb (by omega) (by omega) (by simp) rfl (by omega)) (by simp[Rel])
theorem zQx {o:Oper}{t e:TypeId}{x:Operand}{lo hi:Option Operand}{i:TypeInfo}(ho:o.op=.slice t x lo hi none)
 (hu:P.underlying t=some (.slice e))(hi':P.info? e=some i)(he:zX H L N env a.tmps)(hs:RelSt H L σ w){r:A}{p:Prop}
 (h:zJ env σ (.rslc o.dst x i.size lo hi)=some (p,r))(hp:p):zA1 P H L w a o r:=by
 have hx:=qG he x;have fin:∀ad n cap l h m,a.eval x=.slice ad n cap→(Instr.sliceBounds true n cap (lo.map a.eval) (hi.map a.eval) none).run P w=.ok (l,h,m) w →
  Rel H L r (.slice (if m=l then ad else ad.map (·.add (l*i.size))) (h-l) (m-l))→zA1 P H L w a o r:=by
  intro ad n cap l h m hv hb hr;refine⟨_,?_,hr⟩;unfold execOp;simp only[ho];refine qI ?_;simp[Instr.sliceAt,Instr.slice,run_underlying hu,hv,hb,yD hi']
 simp only[zJ]at h;split at h<;>try (cases h; done)
 ·rename_i l n hxe;split at h<;>try (cases h; done)
  rename_i fz e' sz m ds hds;split at h<;>try (cases h; done)
  rename_i hn;obtain⟨hn,rfl⟩:=hn;split at h<;>try (cases h; done)
  rename_i l' hh hl hhb;cases h;rw[hxe]at hx;simp only[Rel]at hx;obtain⟨_,li,e1,e2,e3,hv⟩:=hx;have hob:=hs.obj l li _ e1 hds;simp only[zN]at hob;obtain⟨_,hlen,_,hob⟩:=hob;have hv:=hv (by rw[hn,hlen]);obtain⟨p1,p2,p3⟩:=hp;rcases hob with ⟨hb,h0⟩ | ⟨b,cur,hb,_,k2,k3,_⟩
  ·rw[hb]at hv;have hn0:n=0:=by omega
   have hv':a.eval x=.slice none n 0:=by rw[hn0]; exact hv
   refine fin none n 0 _ _ _ hv' (zA6 he hl hhb p1 p2 p3 (by omega)) ?_;have hkz:(hh-l').toNat=0:=by omega
   have e5:hh.toNat-l'.toNat=0:=by omega
   simp only[Rel,hkz,e5];refine⟨rfl,li,e1,e2,e3,fun _=>⟨jAs _,_,_,rfl,jAs _,by omega,.inl (by omega)⟩⟩
  ·rw[hb]at hv;refine fin _ n li.cap _ _ _ hv (zA6 he hl hhb p1 p2 p3 (by omega)) ?_;have e5:hh.toNat-l'.toNat=(hh-l').toNat:=by omega
   simp only[Rel,e5];refine⟨rfl,li,e1,e2,e3,fun _=>⟨by omega,_,_,rfl,by omega,by omega,?_⟩⟩;by_cases hz:li.cap-l'.toNat=0
   ·exact .inl hz
   ·have hne:¬li.cap=l'.toNat:=by omega
    refine .inr ⟨b,hb,by simp[hne,Addr.add_lit],?_⟩;rw[←jAt,Nat.add_sub_cancel' (by omega)];exact jA _
 ·rename_i l n off k' c hxe;split at h<;>try (cases h; done)
  rename_i fz e' sz m ds hds;split at h<;>try (cases h; done)
  rename_i hn;obtain⟨hn,rfl⟩:=hn;split at h<;>try (cases h; done)
  rename_i l' hh hl hhb;cases h;rw[hxe]at hx;simp only[Rel]at hx;obtain⟨_,li,e1,e2,e3,hv⟩:=hx;have hob:=hs.obj l li _ e1 hds;simp only[zN]at hob;obtain⟨_,hlen,_,hob⟩:=hob;obtain⟨⟨p1,p2,p3⟩,rfl⟩:=hp;obtain⟨g0,ad,cap,hv2,g1,g2,g3⟩:=hv (by rw[hn,hlen]);refine fin _ k' cap _ _ _ hv2 (zA6 he hl hhb p1 p2 p3 g1) ?_;have e5:hh.toNat-l'.toNat=(hh-l').toNat:=by omega
  simp only[Rel,e5];refine⟨rfl,li,e1,e2,e3,fun _=>⟨by omega,_,_,rfl,by omega,by omega,?_⟩⟩;by_cases hz:cap-l'.toNat=0
  ·exact .inl hz
  ·have hne:¬cap=l'.toNat:=by omega
   rcases g3 with g3 | ⟨b,hb,rfl,g4⟩
   ·omega
   ·refine .inr ⟨b,hb,by simp[hne,Addr.add_lit,jBg],?_⟩;rw[jBg,←jAt,Nat.add_sub_cancel' (by omega)];exact g4
open Classical in
theorem zDV (p:Prop):zBs false p=.lit (.bool (decide p)):=by simp[zBs]
open Classical in
theorem zFa (p:Prop):zBs true p=.lit (.bool (decide (¬p))):=by simp[zBs]
theorem zJJ (a b:ByteArray):(a.toList==b.toList)=@decide (a=b) (Classical.propDecidable _):=by
 by_cases hab:a=b
 ·subst hab; simp
 ·have hne:¬a.toList=b.toList:=fun e=>hab (by
   rw[ByteArray.toList_eq,ByteArray.toList_eq]at e;cases a; cases b;simp only at e
   congr
   exact jCa e)
  simp[hab,hne]
open Classical in
theorem zLJ {k:SK}{x y:A}{p:Prop}(h:zBX k x y=some p){t:TypeId}(hk:zKT P t=some k)(d:Nat):∃u v,x=.lit u∧y=.lit v∧one u∧one v∧(Op.equalIn (d+1) t u v).run P w=.ok (decide p) w:=by
 unfold zBX at h;unfold zKT at hk;split at h<;>try (cases h; done)
 ·rename_i k a k' b;split at h<;>try (cases h; done)
  rename_i he;subst he;cases h;split at hk<;>try (cases hk; done)
  rename_i D hD;refine⟨_,_,rfl,rfl,rfl,rfl,?_⟩;rw[run_equalIn_int w d t k _ a b hD];by_cases hab:a=b<;>simp[hab]
 ·rename_i a b;cases h;split at hk<;>try (cases hk; done)
  rename_i hD;refine⟨_,_,rfl,rfl,rfl,rfl,?_⟩;rw[run_equalIn_bool' w d t a b hD];cases a<;>cases b<;>simp
 ·rename_i a b;cases h;split at hk<;>try (cases hk; done)
  rename_i hD;refine⟨_,_,rfl,rfl,rfl,rfl,?_⟩;rw[run_equalIn_string w d t a b hD,zJJ]
open Classical in
theorem zS7 {k:SK}{x y:A}{p:Prop}(h:zBX k x y=some p){t:TypeId}(hk:zKT P t=some k)(xo yo:Operand):∃u v,x=.lit u∧y=.lit v ∧
 (do eqGuard .eql t xo yo u v; binOp .eql t u v:Sem Value).run P w=.ok (.bool (decide p)) w∧(do eqGuard .neq t xo yo u v; binOp .neq t u v:Sem Value).run P w=.ok (.bool (decide ¬p)) w:=by
 unfold zBX at h;unfold zKT at hk;split at h<;>try (cases h; done)
 ·rename_i k a k' b;split at h<;>try (cases h; done)
  rename_i he;subst he;cases h;refine⟨_,_,rfl,rfl,?_,?_⟩
  ·rw[Sem.run_bind,zFB,Result.andThen_ok];by_cases hab:a=b<;>simp[binOp,Op.intCmp,hab]
  ·rw[Sem.run_bind,zFB,Result.andThen_ok];by_cases hab:a=b<;>simp[binOp,Op.intCmp,hab]
 ·rename_i a b;cases h;split at hk<;>try (cases hk; done)
  rename_i hD;refine⟨_,_,rfl,rfl,?_,?_⟩
  ·simp[eqGuard,binOp,Op.equal,Op.maxDepth,run_equalIn_bool' w 9999 t a b hD];cases a<;>cases b<;>simp
  ·simp[eqGuard,binOp,Op.equal,Op.maxDepth,run_equalIn_bool' w 9999 t a b hD];cases a<;>cases b<;>simp
 ·rename_i a b;cases h;refine⟨_,_,rfl,rfl,?_,?_⟩
  ·simp[eqGuard,binOp,Op.stringOp,zJJ]
  ·simp[eqGuard,binOp,Op.stringOp,zJJ]
theorem zEY {t:TypeId}{k:SK}(h:zKT P t=some k):(isAgg t).run P w=.ok false w:=by
 unfold zKT at h;split at h<;>try (cases h; done)
 all_goals (rename_i hD; rw[zDk hD]; rfl)
open Classical in
theorem zF9 (d:Nat):∀(ks:List SK) (fs:List Field) (o:Nat) (xs ys:List A) (p:Prop) (us vs us0 vs0:List Value),zEx P o fs=some ks→zAf ks xs ys=some p →
 zQ H L xs us→zQ H L ys vs→us0.length=o→vs0.length=o→(Op.eqFields (d+1) (us0++us).toArray (vs0++vs).toArray fs).run P w=.ok (decide p) w
 | ks,[],o,xs,ys,p,us,vs,us0,vs0,hf,he,hx,hy,h1,h2=>by
  simp only[zEx,jA0]at hf;subst hf;unfold zAf at he;split at he<;>try (cases he; done)
  ·cases he; simp[Op.eqFields]
  ·cases ‹([]:List SK)=_::_›
 | ks,f::fs,o,xs,ys,p,us,vs,us0,vs0,hf,he,hx,hy,h1,h2=>by
  simp only[zEx]at hf;split at hf<;>try (cases hf; done)
  rename_i hof;obtain⟨hof,hnm⟩:=hof;split at hf<;>try (cases hf; done)
  rename_i k ks' hk hks;cases hf;cases xs with
  | nil=>simp[zAf]at he
  | cons x xs' =>
  cases ys with
  | nil=>simp[zAf]at he
  | cons y ys' =>
  simp only[zAf]at he;split at he<;>try (cases he; done)
  rename_i p1 q1 hp1 hq1;cases he;obtain⟨u,us',rfl,hu,hus⟩:=zS hx;obtain⟨v,vs',rfl,hv,hvs⟩:=zS hy;obtain⟨u',v',rfl,rfl,_,_,hrun⟩:=zLJ (w:=w) hp1 hk d;simp only[Rel]at hu hv;subst hu;subst hv;have hpu:(part f.type (us0++u::us').toArray f.offset).run P w=.ok u w:=by
   unfold part;rw[Sem.run_bind,zEY hk,Result.andThen_ok];have:(us0++u::us')[f.offset]?=some u:=by rw[hof,←h1]; simp
   simp[this]
  have hpv:(part f.type (vs0++v::vs').toArray f.offset).run P w=.ok v w:=by
   unfold part;rw[Sem.run_bind,zEY hk,Result.andThen_ok];have:(vs0++v::vs')[f.offset]?=some v:=by rw[hof,←h2]; simp
   simp[this]
  have ih:=zF9 d ks' fs (o+1) xs' ys' q1 us' vs' (us0++[u]) (vs0++[v]) hks hq1 hus hvs (by simp[h1]) (by simp[h2]);simp only[jAy,jCx]at ih;simp only[Op.eqFields,hnm,ne_eq,not_false_eq_true,if_true,Sem.run_bind,hpu,hpv,Result.andThen_ok,hrun];by_cases hp:p1
  ·simp[hp,ih]
  ·simp[hp]
open Classical in
theorem zMc {o:Oper}{ng:Bool}{t t':TypeId}{x y:Operand}{k:SK}(ho:o.op=.binOp (if ng then .neq else .eql) t x y t')(hk:zKT P t=some k)(he:zX H L N env a.tmps){r:A}{p:Prop}
 (h:zJ env σ (.eqv o.dst ng k x y)=some (p,r)):zA1 P H L w a o r:=by
 have hx:=qG he x;have hy:=qG he y;simp only[zJ,jAe,jB8]at h;obtain⟨q,hq,_,rfl⟩:=h;obtain⟨u,v,e1,e2,h1,h2⟩:=zS7 (w:=w) hq hk x y;rw[e1]at hx;rw[e2]at hy;simp only[Rel]at hx hy;cases ng
 ·refine⟨.bool (decide q),?_,by rw[zDV]; simp only[Rel]⟩;unfold execOp;simp only[jAg,if_false]at ho;simp only[ho];refine qI ?_;rw[hx,hy];exact h1
 ·refine⟨.bool (decide ¬q),?_,by rw[zFa]; simp only[Rel]⟩;unfold execOp;simp only[if_true]at ho;simp only[ho];refine qI ?_;rw[hx,hy];exact h2
open Classical in
theorem zMb {o:Oper}{ng:Bool}{t t':TypeId}{x y:Operand}{ks:List SK}(ho:o.op=.binOp (if ng then .neq else .eql) t x y t')(hk:zMU P t=some ks)(he:zX H L N env a.tmps){r:A}{p:Prop}
 (h:zJ env σ (.eqs o.dst ng ks x y)=some (p,r)):zA1 P H L w a o r:=by
 have hx:=qG he x;have hy:=qG he y;simp only[zJ]at h;split at h<;>try (cases h; done)
 rename_i xs ys hxe hye;simp only[jAe,jB8]at h;obtain⟨q,hq,_,rfl⟩:=h;rw[hxe]at hx;rw[hye]at hy;simp only[Rel]at hx hy;obtain⟨us,hu,hu1,_⟩:=hx;obtain⟨vs,hv,hv1,_⟩:=hy;unfold zMU at hk;split at hk<;>try (cases hk; done)
 rename_i fs hfs;split at hk<;>try (cases hk; done)
 rename_i hb;simp only[jB3,not_or,jCf]at hb;have hfo:P.fieldsOf t=fs:=by simp[Program.fieldsOf,hfs]
 have hrun:=zF9 (P:=P) (w:=w) 9998 ks fs.toList 0 xs ys q us vs [] [] hk hq hu1 hv1 rfl rfl;simp only[jBj]at hrun;have hst:=run_equalIn_struct (P:=P) w 9999 t us.toArray vs.toArray (by rw[hfo]; exact hfs) hb.1;rw[hfo,hrun]at hst;cases ng
 ·refine⟨.bool (decide q),?_,by rw[zDV]; simp only[Rel]⟩;unfold execOp;simp only[jAg,if_false]at ho;simp only[ho];refine qI ?_;rw[hu,hv,Sem.run_bind,run_eqGuard_agg w _ t x y _ _ hb.2,Result.andThen_ok,run_eql_struct,hst];rfl
 ·refine⟨.bool (decide ¬q),?_,by rw[zFa]; simp only[Rel]⟩;unfold execOp;simp only[if_true]at ho;simp only[ho];refine qI ?_;rw[hu,hv,Sem.run_bind,run_eqGuard_agg w _ t x y _ _ hb.2,Result.andThen_ok,run_neq_struct,hst];simp
theorem zGB:∀{k1 k2:List SK} {xs ys:List A} {p:Prop},zAf (k1++k2) xs ys=some p→∃xs1 xs2 ys1 ys2 p1 p2,xs=xs1++xs2∧ys=ys1++ys2∧xs1.length=k1.length∧ys1.length=k1.length∧zAf k1 xs1 ys1=some p1∧zAf k2 xs2 ys2=some p2∧(p↔p1∧p2)
 | [],k2,xs,ys,p,h=>⟨[],xs,[],ys,True,p,rfl,rfl,rfl,rfl,rfl,h,by simp⟩
 | k::k1,k2,xs,ys,p,h=>by
  cases xs with
  | nil=>simp[zAf]at h
  | cons x xs =>
  cases ys with
  | nil=>simp[zAf]at h
  | cons y ys =>
  simp only[jB0,zAf]at h;split at h<;>try (cases h; done)
  rename_i a b ha hb;cases h;obtain⟨xs1,xs2,ys1,ys2,p1,p2,rfl,rfl,h1,h2,h3,h4,h5⟩:=zGB hb;refine⟨x::xs1,xs2,y::ys1,ys2,a∧p1,p2,rfl,rfl,by simp[h1],by simp[h2],by simp[zAf,ha,h3],h4,by rw[h5,and_assoc]⟩
open Classical in
theorem zEE (d:Nat):∀(fs:List Field) (ks:List SK) (o:Nat) (xs ys:List A) (p:Prop) (us vs us0 vs0:List Value),skN P o fs=some ks→zAf ks xs ys=some p →
 zQ H L xs us→zQ H L ys vs→us0.length=o→vs0.length=o→(Op.eqFields (d+2) (us0++us).toArray (vs0++vs).toArray fs).run P w=.ok (decide p) w
 | [],ks,o,xs,ys,p,us,vs,us0,vs0,hf,he,hx,hy,h1,h2=>by
  simp only[skN,jA0]at hf;subst hf;unfold zAf at he;split at he<;>try (cases he; done)
  ·cases he; simp[Op.eqFields]
  ·cases ‹([]:List SK)=_::_›
 | f::fs,ks,o,xs,ys,p,us,vs,us0,vs0,hf,he,hx,hy,h1,h2=>by
  simp only[skN]at hf;split at hf<;>try (cases hf; done)
  rename_i hof;obtain⟨hof,hnm⟩:=hof;split at hf
  ·rename_i k hk;simp only[jAe]at hf;obtain⟨ks',hks,rfl⟩:=hf;cases xs with
   | nil=>simp[zAf]at he
   | cons x xs' =>
   cases ys with
   | nil=>simp[zAf]at he
   | cons y ys' =>
   simp only[zAf]at he;split at he<;>try (cases he; done)
   rename_i p1 q1 hp1 hq1;cases he;obtain⟨u,us',rfl,hu,hus⟩:=zS hx;obtain⟨v,vs',rfl,hv,hvs⟩:=zS hy;obtain⟨u',v',rfl,rfl,_,_,hrun⟩:=zLJ (w:=w) hp1 hk (d+1);simp only[Rel]at hu hv;subst hu;subst hv;have hpu:(part f.type (us0++u::us').toArray f.offset).run P w=.ok u w:=by
    unfold part;rw[Sem.run_bind,zEY hk,Result.andThen_ok];have:(us0++u::us')[f.offset]?=some u:=by rw[hof,←h1]; simp
    simp[this]
   have hpv:(part f.type (vs0++v::vs').toArray f.offset).run P w=.ok v w:=by
    unfold part;rw[Sem.run_bind,zEY hk,Result.andThen_ok];have:(vs0++v::vs')[f.offset]?=some v:=by rw[hof,←h2]; simp
    simp[this]
   have ih:=zEE d fs ks' (o+1) xs' ys' q1 us' vs' (us0++[u]) (vs0++[v]) hks hq1 hus hvs (by simp[h1]) (by simp[h2]);simp only[jAy,jCx]at ih;simp only[Op.eqFields,hnm,ne_eq,not_false_eq_true,if_true,Sem.run_bind,hpu,hpv,Result.andThen_ok,hrun];by_cases hp:p1
   ·simp[hp,ih]
   ·simp[hp]
  ·split at hf<;>try (cases hf; done)
   rename_i gs hgs;split at hf<;>try (cases hf; done)
   rename_i hst;split at hf<;>try (cases hf; done)
   rename_i k1 j hk1 hj;split at hf<;>try (cases hf; done)
   rename_i hsz;simp only[jAe]at hf;obtain⟨k2,hk2,rfl⟩:=hf;obtain⟨xs1,xs2,ys1,ys2,p1,p2,rfl,rfl,g1,g2,g3,g4,g5⟩:=zGB he;obtain⟨us1,us2,rfl,hu1,hu2⟩:=hx.split;obtain⟨vs1,vs2,rfl,hv1,hv2⟩:=hy.split;have l1:us1.length=k1.length:=by rw[hu1.length,g1]
   have l2:vs1.length=k1.length:=by rw[hv1.length,g2]
   have hag:(isAgg f.type).run P w=.ok true w:=by rw[zDk hgs]; rfl
   have hpart:∀(z0 z1 z2:List Value),z0.length=o→z1.length=k1.length→(part f.type (z0++(z1++z2)).toArray f.offset).run P w=.ok (.agg z1.toArray) w:=by
    intro z0 z1 z2 e0 e1;unfold part;rw[Sem.run_bind,hag,Result.andThen_ok];simp only[if_true,Sem.run_bind,yD hj,Result.andThen_ok,hof,hsz];have:(z0++(z1++z2)).toArray.extract o (o+k1.length)=z1.toArray:=by apply jCa;simp[←e0,←e1]
    rw[this];rfl
   have hfo:P.fieldsOf f.type=gs:=by simp[Program.fieldsOf,hgs]
   have hin:=zF9 (P:=P) (w:=w) d k1 gs.toList 0 xs1 ys1 p1 us1 vs1 [] [] hk1 g3 hu1 hv1 rfl rfl;simp only[jBj]at hin;have hst2:=run_equalIn_struct (P:=P) w (d+1) f.type us1.toArray vs1.toArray (by rw[hfo]; exact hgs) (by simpa using hst);rw[hfo,hin]at hst2;have ih:=zEE d fs k2 (o+k1.length) xs2 ys2 p2 us2 vs2 (us0++us1) (vs0++vs1) hk2 g4 hu2 hv2 (by simp[h1,l1]) (by simp[h2,l2]);simp only[jAy]at ih;simp only[Op.eqFields,hnm,ne_eq,not_false_eq_true,if_true,Sem.run_bind,hpart us0 us1 us2 h1 l1,hpart vs0 vs1 vs2 h2 l2,Result.andThen_ok,hst2];by_cases hp:p1
   ·simp[hp,ih,g5]
   ·simp[hp,g5]
open Classical in
theorem zMa {o:Oper}{ng:Bool}{t t':TypeId}{x y:Operand}{ks:List SK}(ho:o.op=.binOp (if ng then .neq else .eql) t x y t')(hk:zNl P t=some ks)(he:zX H L N env a.tmps){r:A}{p:Prop}
 (h:zJ env σ (.eqs o.dst ng ks x y)=some (p,r)):zA1 P H L w a o r:=by
 have hx:=qG he x;have hy:=qG he y;simp only[zJ]at h;split at h<;>try (cases h; done)
 rename_i xs ys hxe hye;simp only[jAe,jB8]at h;obtain⟨q,hq,_,rfl⟩:=h;rw[hxe]at hx;rw[hye]at hy;simp only[Rel]at hx hy;obtain⟨us,hu,hu1,_⟩:=hx;obtain⟨vs,hv,hv1,_⟩:=hy;unfold zNl at hk;split at hk<;>try (cases hk; done)
 rename_i fs hfs;split at hk<;>try (cases hk; done)
 rename_i hb;simp only[jB3,not_or,jCf]at hb;have hfo:P.fieldsOf t=fs:=by simp[Program.fieldsOf,hfs]
 have hrun:=zEE (P:=P) (w:=w) 9997 fs.toList ks 0 xs ys q us vs [] [] hk hq hu1 hv1 rfl rfl;simp only[jBj]at hrun;have hst:=run_equalIn_struct (P:=P) w 9999 t us.toArray vs.toArray (by rw[hfo]; exact hfs) hb.1;rw[hfo,hrun]at hst;cases ng
 ·refine⟨.bool (decide q),?_,by rw[zDV]; simp only[Rel]⟩;unfold execOp;simp only[jAg,if_false]at ho;simp only[ho];refine qI ?_;rw[hu,hv,Sem.run_bind,run_eqGuard_agg w _ t x y _ _ hb.2,Result.andThen_ok,run_eql_struct,hst];rfl
 ·refine⟨.bool (decide ¬q),?_,by rw[zFa]; simp only[Rel]⟩;unfold execOp;simp only[if_true]at ho;simp only[ho];refine qI ?_;rw[hu,hv,Sem.run_bind,run_eqGuard_agg w _ t x y _ _ hb.2,Result.andThen_ok,run_neq_struct,hst];simp
theorem zMe {o:Oper}{ng:Bool}{t t':TypeId}{x y:Operand}(ho:o.op=.binOp (if ng then .neq else .eql) t x y t')(hn:zRX P t y=true)(he:zX H L N env a.tmps){r:A}{p:Prop}
 (h:zJ env σ (.isp o.dst ng x)=some (p,r)):zA1 P H L w a o r:=by
 have hx:=qG he x;unfold zRX at hn;split at hn<;>try (cases hn; done)
 rename_i e hu;have fin:∀(ad:Option Addr),a.eval x=.pointer ad→r=.lit (.bool (ad.isNone != ng))→zA1 P H L w a o r:=by
  rintro ad hv rfl;have key:(Op.equal t (.pointer ad) (.pointer none)).run P w=.ok ad.isNone w:=by
   unfold Op.equal Op.maxDepth;unfold Op.equalIn;cases ad with
   | none=>simp[run_underlying hu]
   | some ad=>simp[run_underlying hu]
  refine⟨.bool (ad.isNone != ng),?_,by simp only[Rel]⟩;unfold execOp;cases ng
  ·simp only[jAg,if_false]at ho;simp only[ho,hv];refine qI ?_;simp[Act.eval,eqGuard,binOp,key]
  ·simp only[if_true]at ho;simp only[ho,hv];refine qI ?_;simp[Act.eval,eqGuard,binOp,key]
 simp only[zJ]at h;split at h<;>try (cases h; done)
 ·rename_i hxe;cases h;rw[hxe]at hx;simp only[Rel]at hx;exact fin none hx (by cases ng<;>rfl)
 ·rename_i hxe;cases h;rw[hxe]at hx;simp only[Rel]at hx;obtain⟨b,o',us,hx,_⟩:=hx;exact fin (some ⟨b,o',none⟩) hx (by cases ng<;>rfl)
 ·rename_i hxe;cases h;rw[hxe]at hx;simp only[Rel]at hx;obtain⟨li,b,_,_,_,hx⟩:=hx;exact fin _ hx (by cases ng<;>rfl)
theorem zMd {o:Oper}{ng:Bool}{t t':TypeId}{x y:Operand}(ho:o.op=.binOp (if ng then .neq else .eql) t x y t')(hn:zK7 P t y=true)(he:zX H L N env a.tmps){r:A}{p:Prop}
 (h:zJ env σ (.isn o.dst ng x)=some (p,r))(hp:p):zA1 P H L w a o r:=by
 have hx:=qG he x;unfold zK7 at hn;split at hn<;>try (cases hn; done)
 rename_i e hu;have fin:∀(b:Bool),(∃(ad:Option Addr) (n c:Nat),a.eval x=.slice ad n c∧ad.isNone=b)→r=.lit (.bool (b != ng))→zA1 P H L w a o r:=by
  rintro b ⟨ad,n,c,hv,hb⟩ rfl;have key:(Op.equal t (.slice ad n c) (.slice none 0 0)).run P w=.ok b w:=by
   subst hb;unfold Op.equal Op.maxDepth;unfold Op.equalIn;cases ad with
   | none=>simp[run_underlying hu]
   | some ad=>simp[run_underlying hu]
  refine⟨.bool (b != ng),?_,by simp only[Rel]⟩;unfold execOp;cases ng
  ·simp only[jAg,if_false]at ho;simp only[ho,hv];refine qI ?_;simp[Act.eval,eqGuard,binOp,key]
  ·simp only[if_true]at ho;simp only[ho,hv];refine qI ?_;simp[Act.eval,eqGuard,binOp,key]
 simp only[zJ]at h;split at h<;>try (cases h; done)
 ·rename_i hxe;cases h;rw[hxe]at hx;simp only[Rel]at hx;exact fin true ⟨_,_,_,hx,rfl⟩ (by cases ng<;>rfl)
 ·rename_i n cs hxe;cases h;rw[hxe]at hx;simp only[Rel]at hx;obtain⟨ad,cap,hv,_,_,h3⟩:=hx;rcases h3 with ⟨h3,_⟩ | ⟨b,off,us,rfl,_⟩
  ·exact(hp h3).elim
  ·exact fin false ⟨_,_,_,hv,rfl⟩ (by cases ng<;>rfl)
 ·rename_i n cs hxe;cases h;rw[hxe]at hx;simp only[Rel]at hx;obtain⟨ad,hv,_,h3⟩:=hx;rcases h3 with ⟨h3,_⟩ | ⟨b,off,us,rfl,_⟩
  ·exact(hp h3).elim
  ·exact fin false ⟨_,_,_,hv,rfl⟩ (by cases ng<;>rfl)
theorem zMf {o:Oper}{ng:Bool}{t t':TypeId}{x y:Operand}(ho:o.op=.binOp (if ng then .neq else .eql) t x y t')(hn:zK7 P t y=true){ad:Option Addr}{n cap:Nat}(hv:a.eval x=.slice ad n cap) :
 zA1 P H L w a o (.lit (.bool (ad.isNone != ng))):=by
 unfold zK7 at hn;split at hn<;>try (cases hn; done)
 rename_i e hu;have key:(Op.equal t (.slice ad n cap) (.slice none 0 0)).run P w=.ok ad.isNone w:=by
  unfold Op.equal Op.maxDepth;unfold Op.equalIn;cases ad with
  | none=>simp[run_underlying hu]
  | some ad=>simp[run_underlying hu]
 refine⟨.bool (ad.isNone != ng),?_,by simp only[Rel]⟩;unfold execOp;cases ng
 ·simp only[jAg,if_false]at ho;simp only[ho,hv];refine qI ?_;simp[Act.eval,eqGuard,binOp,key]
 ·simp only[if_true]at ho;simp only[ho,hv];refine qI ?_;simp[Act.eval,eqGuard,binOp,key]
theorem zXp (hs:RelSt H L σ w){x:A}{v:Value}(hx:Rel H L x v):(x=.nil→v=.slice none 0 0)∧(∀n cs,x=.sl n cs→∃ad cap,v=.slice ad n cap∧(n≠0→ad.isNone=false)) ∧
 ∀l n fz e sz cs,x=.row l n→σ[l]?=some (.row fz e sz n cs)→∃ad cap,v=.slice ad n cap∧(n≠0→ad.isNone=false):=by
 refine⟨fun e=>by subst e; simpa only[Rel] using hx,fun n cs e=>?_,fun l n fz e sz cs he hσ=>?_⟩
 ·subst e;simp only[Rel]at hx;obtain⟨ad,cap,hv,_,_,h3⟩:=hx;refine⟨ad,cap,hv,fun h0=>?_⟩;rcases h3 with ⟨h3,_⟩ | ⟨b,off,us,rfl,_⟩
  ·exact(h0 h3).elim
  ·rfl
 ·subst he;simp only[Rel]at hx;obtain⟨_,li,e1,e2,e3,hv⟩:=hx;have hob:=hs.obj l li _ e1 hσ;simp only[zN]at hob;have hv:=hv (by rw[hob.2.1]);cases hb:li.block with
  | none =>
   rw[hb]at hv;rcases hob.2.2.2 with ⟨_,h0⟩ | ⟨b,cur,hb',_⟩
   ·subst h0; exact⟨_,_,hv,fun h=>(h rfl).elim⟩
   ·rw[hb]at hb'; cases hb'
  | some b=>rw[hb]at hv; exact⟨_,_,hv,fun _=>rfl⟩
end
end Go.Abs
namespace Go.Abs
section
variable {P:Program}{H:Mem}{L:List LI} {σ : St}{w:World}{N:Nat}{env:Env}{a:Act}
theorem zOz (off:Nat):∀(vs:List Value) (k:Nat) (cs:Array Value),off+k+vs.length≤cs.size →
 ((vs.zipIdx k).foldl (fun cs (p:Value×Nat)=>cs.setIfInBounds (off+p.2) p.1) cs).toList=cs.toList.take (off+k)++vs++cs.toList.drop (off+k+vs.length)
 | [],k,cs,_=>by simp
 | v::vs,k,cs,h=>by
  simp only[jAl]at h;have ih:=zOz off vs (k+1) (cs.setIfInBounds (off+k) v) (by simpa using by omega);rw[List.zipIdx_cons,jBz,ih];simp only[jDb,jAl];have hk:off+k<cs.toList.length:=by simpa using by omega
  rw[show off+(k+1)=off+k+1 from by omega,jAa (by simpa using hk),List.take_set_of_le (jA _),List.getElem_set_self,
   List.drop_set_of_lt (by omega)]
  simp only[jAy,jCx];rw[show off+k+1+vs.length=off+k+(vs.length+1) from by omega]
theorem zHA (he:zX H L N env a.tmps)(place:Nat→Option (Nat×Nat)):∀(parts:List (Nat×Operand)) (ps:List (Nat×Nat×Operand)) (zs:List A) (arr:Array Value) (cs:List A),
 zCZ place parts=some ps→zB3 zs (ps.map fun(o,s,x)=>(o,s,ev env x))=some cs→zQ H L zs arr.toList→(∀u∈arr.toList,one u) →
 ∃arr':Array Value,Instr.fill place arr (parts.map fun(i,x)=>(i,a.eval x))=some arr'∧zQ H L cs arr'.toList∧∀u∈arr'.toList,one u
 | [],ps,zs,arr,cs,hp,hf,hz,h1=>by simp only[zCZ,List.mapM_nil,jD4,jA0]at hp;subst hp;simp only[jBb,zB3,jA0]at hf;subst hf;exact⟨arr,rfl,hz,h1⟩
 | (i,x)::parts,ps,zs,arr,cs,hp,hf,hz,h1=>by
  simp only[zCZ,jCw,jD4,jAc,jA4,jAe,jA0]at hp;obtain⟨q,⟨⟨off,size⟩,hpl,rfl⟩,ps',hps,rfl⟩:=hp;simp only[jA9,zB3]at hf;split at hf<;>try (cases hf; done)
  rename_i l hl;split at hf<;>try (cases hf; done)
  rename_i hc;obtain⟨hc1,hc2⟩:=hc;obtain⟨g1,g2⟩:=zFT (qG he x) hl;have hlen:=g1.length;have hzl:=hz.length;have hls:(a.eval x).cells.size=size:=by rw[←jAr,hlen,hc1]
  have hsz:off+(a.eval x).cells.size≤arr.size:=by rw[hls,←jAr,hzl]; exact hc2
  have hfold:(((a.eval x).cells.zipIdx.foldl (fun cs (p:Value×Nat)=>cs.setIfInBounds (off+p.2) p.1) arr)).toList=arr.toList.take off++(a.eval x).cells.toList++arr.toList.drop (off+size):=by have:=zOz off (a.eval x).cells.toList 0 arr (by simpa using hsz);simp only[jBl,jAr,hls]at this;rw[←this,←Array.foldl_toList,Array.toList_zipIdx]
  obtain⟨arr',k1,k2,k3⟩:=zHA he place parts ps' _ ((a.eval x).cells.zipIdx.foldl (fun cs (p:Value×Nat)=>cs.setIfInBounds (off+p.2) p.1) arr) cs hps hf
   (by rw[hfold]; exact((hz.take off).append g1).append (hz.drop _))
   (by
    rw[hfold];intro u hu;simp only[jAb]at hu;rcases hu with (hu | hu) | hu
    ·exact h1 u (jCb hu)
    ·exact g2 u hu
    ·exact h1 u (jBm hu))
  refine⟨arr',?_,k2,k3⟩;simp only[jA9,Instr.fill,hpl];rw[if_neg (by simp only[jB3,decide_eq_true_eq,not_or,Decidable.not_not,hls,true_and,Nat.not_lt,ne_eq]; rw[hls]at hsz; exact hsz)];exact k1
theorem zOU {fs:Array Field}{P:Program}(hall:fs.all (fun f=>(P.info? f.type).isSome)=true) :
 ∃ps:Array (Nat×Nat),(fs.mapM fun f=>(do pure (f.offset,←sizeOf f.type):Sem (Nat×Nat))).run P w=.ok ps w∧∀i:Nat,ps[i]?=zDG P fs.toList i:=by
 obtain⟨l⟩:=fs;have hall':∀f∈l,(P.info? f.type).isSome:=by simpa using hall
 have key:∀(l:List Field),(∀f∈l,(P.info? f.type).isSome)→∃ps:List (Nat×Nat),(l.mapM fun f=>(do pure (f.offset,←sizeOf f.type):Sem (Nat×Nat))).run P w=.ok ps w ∧
  ∀i:Nat,ps[i]?=zDG P l i:=by
  intro l;induction l with
  | nil=>intro _; exact⟨[],by simp,by simp[zDG]⟩
  | cons f l ih =>
   intro h;obtain⟨ps,h1,h2⟩:=ih (fun g hg=>h g (jAh _ hg));obtain⟨j,hj⟩:=Option.isSome_iff_exists.1 (h f (jAk ..));refine⟨(f.offset,j.size)::ps,?_,?_⟩
   ·rw[jCw];simp only[Sem.run_bind,yD hj,Result.andThen_ok,Sem.run_pure,h1]
   ·intro i;cases i with
    | zero=>simp[zDG,hj]
    | succ i=>simpa [zDG] using h2 i
 obtain⟨ps,h1,h2⟩:=key l hall';refine⟨ps.toArray,?_,fun i=>by simpa using h2 i⟩;rw[List.mapM_toArray];simp only[Sem.run_map,h1,Result.andThen_ok]
theorem zJg {o:Oper}{t:TypeId}{parts:Array (Nat×Operand)}{i:TypeInfo}{z:Value}{place:Nat→Option (Nat×Nat)}{ps:List (Nat×Nat×Operand)}(ho:o.op=.build t parts)
 (hi:P.info? t=some i)(hz:i.zero=some z)(hok:zAn z.cells.toList=true)(hps:zCZ place parts.toList=some ps)
 (hpl:(∃fs,P.underlying t=some (.struct fs)∧fs.all (fun f=>(P.info? f.type).isSome)=true∧place=zDG P fs.toList) ∨
  (∃n e j,P.underlying t=some (.array n e)∧P.info? e=some j∧place=fun i=>some (i*j.size,j.size)))
 (he:zX H L N env a.tmps){r:A}{p:Prop}(h:zJ env σ (.build o.dst z.cells.toList ps)=some (p,r)):zA1 P H L w a o r:=by
 simp only[zJ,jAe,jB8]at h;obtain⟨cs,hcs,_,rfl⟩:=h;have hone:∀u∈z.cells.toList,one u:=fun u hu=>jAz.1 hok u hu
 obtain⟨arr,h1,h2,h3⟩:=zHA he place parts.toList ps _ z.cells cs hps hcs (zAP _) hone;refine⟨.agg arr,?_,by simp only[Rel]; exact⟨arr.toList,by simp,h2,h3⟩⟩;unfold execOp;simp only[ho];refine qI ?_;have hmap:(parts.map fun(i,x)=>(i,a.eval x)).toList=parts.toList.map fun(i,x)=>(i,a.eval x):=by simp
 unfold Instr.build;have hzr:(zeroValue t).run P w=.ok z w:=by simp[zeroValue,typeInfo,hi,hz]
 rcases hpl with ⟨fs,hu,hall,rfl⟩ | ⟨n,e,j,hu,hj,rfl⟩
 ·obtain⟨pls,hm1,hm2⟩:=zOU (w:=w) hall;have hfn:(fun i:Nat=>pls[i]?)=zDG P fs.toList:=funext hm2;simp only[Sem.run_bind,hzr,Result.andThen_ok,run_underlying hu,hm1,hmap];rw[hfn,h1];rfl
 ·simp only[Sem.run_bind,hzr,Result.andThen_ok,run_underlying hu,yD hj,hmap];rw[h1];rfl
end
end Go.Abs
namespace Go.Abs
section
variable {P:Program}{H:Mem}{L:List LI} {σ : St}{w:World}{N:Nat}{env:Env}{a:Act}
theorem zQO {o:Oper}{k:KOp}{p:Prop}{r:A}(hc:zAw P o=some k)(h:zJ env σ k=some (p,r))(hp:p)(he:zX H L N env a.tmps)(hs:RelSt H L σ w) :
 zA1 P H L w a o r:=by
 unfold zAw at hc;split at hc
 case h_1 x heq=>cases hc; cases h; exact zMg (.inl heq) he
 case h_2 x heq=>cases hc; cases h; exact zMg (.inr heq) he
 case h_3 c x y heq =>
  cases hc;simp only[zJ]at h;split at h<;>try (cases h; done)
  rename_i t hce;cases h;exact zQw heq he hce
 case h_4 e heq =>
  simp only[jAc,jA4]at hc;obtain⟨i,_,z,_,hc⟩:=hc;split at hc
  ·cases hc; simp[zJ]at h
  ·cases hc
 case h_5 e x heq=>cases hc; simp[zJ]at h
 case h_6 t x heq =>
  simp only[jAc,jA4,jA0]at hc;obtain⟨u,hu,i,hi,rfl⟩:=hc;simp only[zJ,jAe,jB8]at h;obtain⟨r',hr,_,rfl⟩:=h;exact zVh heq hu hi he hs hr
 case h_7 t x y heq =>
  simp only[jAc,jA4,jA0]at hc;obtain⟨i,hi,rfl⟩:=hc;simp[zJ]at h
 case h_8 s x f heq =>
  split at hc<;>try (cases hc; done)
  rename_i fs hfs;simp only[jAc,jA4]at hc;obtain⟨g,hg,i,hi,hc⟩:=hc;split at hc<;>try (cases hc; done)
  rename_i h0;cases hc;exact zQt heq hfs hg hi h0 he hs h
 case h_9 t x i heq =>
  split at hc<;>try (cases hc; done)
  ·rename_i e hu;simp only[jAc,jA4,jA0]at hc;obtain⟨ti,hi,rfl⟩:=hc;exact zSJ heq hu hi he hs h hp
  ·rename_i n e hu;simp only[jAc,jA4,jA0]at hc;obtain⟨ti,hi,rfl⟩:=hc;exact zMZ heq hu hi he h hp
 case h_10 t x f heq =>
  split at hc<;>try (cases hc; done)
  rename_i fs hfs;simp only[jAc,jA4,jA0]at hc;obtain⟨g,hg,u,hu,i,hi,rfl⟩:=hc;exact zSI heq hfs hg hu hi he h
 case h_11 t x i heq =>
  split at hc<;>try (cases hc; done)
  rename_i n e hut;simp only[jAc,jA4,jA0]at hc;obtain⟨u,hu,j,hj,rfl⟩:=hc;exact zVg heq hut hu hj he h hp
 case h_12 op t x y t' heq =>
  split at hc<;>try (cases hc; done)
  all_goals try (cases hc; exact zSF heq he h hp)
  ·split at hc
   ·rename_i k hk;cases hc;exact zMc (ng:=false) heq hk he h
   ·split at hc
    ·rename_i hn;cases hc;exact zMd (ng:=false) heq hn he h hp
    ·rcases zGh hc with ⟨hn,rfl⟩ | ⟨ks,hk,rfl⟩
     ·exact zMe (ng:=false) heq hn he h
     ·rcases hk with hk | hk
      ·exact zMb (ng:=false) heq hk he h
      ·exact zMa (ng:=false) heq hk he h
  ·split at hc
   ·rename_i k hk;cases hc;exact zMc (ng:=true) heq hk he h
   ·split at hc
    ·rename_i hn;cases hc;exact zMd (ng:=true) heq hn he h hp
    ·rcases zGh hc with ⟨hn,rfl⟩ | ⟨ks,hk,rfl⟩
     ·exact zMe (ng:=true) heq hn he h
     ·rcases hk with hk | hk
      ·exact zMb (ng:=true) heq hk he h
      ·exact zMa (ng:=true) heq hk he h
 case h_13 op t x heq =>
  split at hc<;>try (cases hc; done)
  ·cases hc; exact zSM heq he h
  ·cases hc; exact zSN heq he h
 case h_14 t i heq=>cases hc; exact zSH heq he h
 case h_15 f first cap heq=>cases hc; cases h; exact zSG heq he
 case h_16 t x lo hi mx heq =>
  split at hc<;>try (cases hc; done)
  rename_i e hu;simp only[jAc,jA4,jA0]at hc;obtain⟨i,hi,rfl⟩:=hc;exact zSO heq hu hi he h hp
 case h_17 t parts heq =>
  split at hc<;>try (cases hc; done)
  ·rename_i fs hu;simp only[jAc,jA4]at hc;obtain⟨i,hi,z,hz,hc⟩:=hc;split at hc<;>try (cases hc; done)
   rename_i hb;simp only[jA6]at hb;simp only[jA4,jA0]at hc;obtain⟨ps,hps,rfl⟩:=hc;exact zJg heq hi hz hb.1 hps (.inl ⟨fs,hu,hb.2,rfl⟩) he h
  ·rename_i n e hu;simp only[jAc,jA4]at hc;obtain⟨i,hi,z,hz,j,hj,hc⟩:=hc;split at hc<;>try (cases hc; done)
   rename_i hb;simp only[jA4,jA0]at hc;obtain⟨ps,hps,rfl⟩:=hc;exact zJg heq hi hz hb hps (.inr ⟨n,e,j,hu,hj,rfl⟩) he h
 case h_18 t len parts heq =>
  split at hc<;>try (cases hc; done)
  simp only[jAc,jA4]at hc;obtain⟨j,hj,z,hz,hc⟩:=hc;split at hc<;>try (cases hc; done)
  simp only[jA4,jA0]at hc;obtain⟨ps,hps,rfl⟩:=hc;simp[zJ]at h
 case h_19 c heq =>
  split at hc
  ·split at hc
   ·split at hc
    ·cases hc; simp[zJ]at h
    ·cases hc
   ·cases hc; simp[zJ]at h
   ·cases hc
  ·rename_i hcal;split at hc<;>try (cases hc; done)
   rename_i x t ha ht;split at hc<;>try (cases hc; done)
   ·rename_i e hu;cases hc;exact zSK heq hcal ha ht hu he hs h
   ·rename_i hu;cases hc;exact zQu heq hcal ha ht hu he h
  ·split at hc<;>try (cases hc; done)
   simp only[jAe]at hc;obtain⟨nk,_,rfl⟩:=hc;simp[zJ]at h
  ·split at hc<;>try (cases hc; done)
   split at hc<;>try (cases hc; done)
   simp only[jAc,jA4]at hc;obtain⟨j,hj,z,hz,hc⟩:=hc;split at hc<;>try (cases hc; done)
   cases hc;simp[zJ]at h
  ·rename_i hcal; cases hc; exact zOC (mx:=true) heq hcal he h
  ·rename_i hcal; cases hc; exact zOC (mx:=false) heq hcal he h
  ·split at hc<;>try (cases hc; done)
   split at hc<;>try (cases hc; done)
   split at hc<;>try (cases hc; done)
   simp only[jAc,jA4]at hc;obtain⟨j,hj,z,hz,hc⟩:=hc;split at hc<;>try (cases hc; done)
   cases hc;simp[zJ]at h
  ·cases hc
 case h_20 x heq=>cases hc; exact zQv heq he h
 case h_21 t heq =>
  simp only[jAe]at hc;obtain⟨nk,_,rfl⟩:=hc;simp[zJ]at h
 case h_22 t x k ok heq =>
  split at hc<;>try (cases hc; done)
  simp only[jAc,jA4,jA0]at hc;obtain⟨nk,_,j,_,z,_,rfl⟩:=hc;simp[zJ]at h
 case h_23 t m k v heq =>
  simp only[jAe]at hc;obtain⟨nk,_,rfl⟩:=hc;simp[zJ]at h
 case h_24 t x heq =>
  split at hc<;>try (cases hc; done)
  cases hc;simp[zJ]at h
 case h_25 x heq=>cases hc; simp[zJ]at h
 case h_26 x heq=>cases hc; simp[zJ]at h
 case h_27 t x heq =>
  split at hc<;>try (cases hc; done)
  rename_i u hu;split at hc<;>try (cases hc; done)
  rename_i hn;cases hc;exact zSL heq hu hn he h
 case h_28=>cases hc; simp[zJ]at h
 case h_29 t x y heq =>
  split at hc<;>try (cases hc; done)
  simp only[jAc,jA4]at hc;obtain⟨j,hj,z,hz,hc⟩:=hc;split at hc<;>try (cases hc; done)
  cases hc;simp[zJ]at h
 case h_30 s d x heq =>
  split at hc<;>try (cases hc; done)
  ·split at hc<;>try (cases hc; done)
   cases hc;simp[zJ]at h
  ·split at hc<;>try (cases hc; done)
   split at hc<;>try (cases hc; done)
   cases hc;simp[zJ]at h
 case h_31 t m k v heq =>
  simp only[jAe]at hc;obtain⟨nk,_,rfl⟩:=hc;simp[zJ]at h
 case h_32=>cases hc
structure Nxt (H:Mem)(L:List LI)(w:World)(H':Mem)(L':List LI) (σ':St)(w':World):Prop where
 st:RelSt H' L' σ' w'
 step:Step (zPg L) w H w' H'
 lle:LLe L L'
 own:∀b,zPg L' b→zPg L b∨w.heap.size≤b
theorem Nxt.refl (hs:RelSt H L σ w):Nxt H L w H L σ w:=⟨hs,Step.refl _ _ _,LLe.refl _,fun _ h=>.inl h⟩
theorem Nxt.trans {H' H'':Mem}{L' L'':List LI} {σ' σ'':St}{w' w'':World}(h:Nxt H L w H' L' σ' w')(k:Nxt H' L' w' H'' L'' σ'' w''):Nxt H L w H'' L'' σ'' w'' :=
 ⟨k.st,h.step.trans k.step h.own,h.lle.trans k.lle,fun b hb=>(k.own b hb).elim (h.own b) fun hb=>.inr (jBs h.step.size hb)⟩
theorem Inv.next {O:Nat→Prop}{w0:World}{H0:Mem}{H':Mem}{L':List LI} {σ':St}{w':World}(h:Inv O w0 H0 H L σ w)(k:Nxt H L w H' L' σ' w'):Inv O w0 H0 H' L' σ' w' :=
 ⟨k.st,h.step.trans k.step h.own,fun b hb=>(k.own b hb).elim (h.own b) fun hb=>.inr (jBs h.step.size hb)⟩
theorem zN.carry {H':Mem}{L':List LI}{w':World}{li:LI}{o:AObj}(h:zN H L w li o)(hw:∀b,li.block=some b→w'.heap[b]?=w.heap[b]?)(hh:HLe H H')(hl:LLe L L')
 (hb:∀b,li.block=some b→∀o,H' b o=H b o):zN H' L' w' li o:=by
 cases o with
 | dead=>trivial
 | box cs =>
  simp only[zN]at h⊢;obtain⟨h0,b,vs,e,h1,h2,h3,h4,h5⟩:=h;exact⟨h0,b,vs,e,h1,by rw[hw b h1]; exact h2,zQ.mono hh hl _ h3,h4,fun o=>by rw[hb b h1]; exact h5 o⟩
 | row fz e sz n cs =>
  simp only[zN]at h⊢;obtain⟨h0,h1,h2,h3⟩:=h;refine⟨h0,h1,h2,?_⟩;rcases h3 with h3 | ⟨b,cur,g1,g2,g3,g4,g5,g6,g7,g8⟩
  ·exact .inl h3
  ·refine .inr ⟨b,cur,g1,by rw[hw b g1]; exact g2,g3,g4,g5,zQ.mono hh hl _ g6,g7,?_⟩;cases fz with
   | false=>exact fun o=>by rw[hb b g1]; exact g8 o
   | true=>exact⟨g8.1.mono hh,fun o ho=>by rw[hb b g1]; exact g8.2 o ho⟩
 | lp b r M es =>
  simp only[zN]at h⊢;obtain⟨h0,h1,tmps,h2,h3,h4⟩:=h;exact⟨h0,h1,tmps,by rw[hw b h1]; exact h2,h3,h4.mono hh hl⟩
 | mp fresh nk es =>
  simp only[zN]at h⊢;obtain⟨h0,b,ents,ck,h1,h2,h3,h4⟩:=h;exact⟨h0,b,ents,ck,h1,by rw[hw b h1]; exact h2,h3.mono hh hl,h4⟩
 | it m n met =>
  simp only[zN]at h⊢;obtain⟨h0,b,mb,lm,h1,h2,h3,h4,h5⟩:=h;obtain⟨lm',e',hlm⟩:=hl _ _ h2;rcases hlm with rfl | ⟨hr,_⟩ | ⟨hr,_⟩
  ·exact⟨h0,b,mb,_,h1,e',h3,h4,by rw[hw b h1]; exact h5⟩
  ·rw[h4]at hr; cases hr
  ·rw[h3]at hr; cases hr
 | rsv=>exact h
theorem zU2 {w w':World}{b:Nat}(hkeep:∀k,k≠b→w'.heap[k]?=w.heap[k]?)(hb:∀d,w.heap[b]?≠some (.deferred d))(k:Nat)(d:Option (List Deferred))(h:w.heap[k]?=some (.deferred d)):w'.heap[k]?=some (.deferred d):=by
 by_cases hk:k=b
 ·subst hk; exact(hb d h).elim
 ·rw[hkeep k hk]; exact h
theorem zDA {w w':World}(hkeep:∀k,k<w.heap.size→w'.heap[k]?=w.heap[k]?)(k:Nat)(d:Option (List Deferred))(h:w.heap[k]?=some (.deferred d)):w'.heap[k]?=some (.deferred d):=by rw[hkeep k (jCo.1 h).1]; exact h
theorem RelSt.heap_eq {w':World}(h:RelSt H L σ w)(hw:w'.heap=w.heap):RelSt H L σ w':=by
 have hc:∀a,w'.cell? a=w.cell? a:=fun a=>by simp[World.cell?,hw]
 exact⟨fun b o v hv=>by rw[hc]; exact h.pers b o v hv,h.len,fun i l o h1 h2=>(h.obj i l o h1 h2).carry (fun b _=>by rw[hw]) (HLe.refl _) (LLe.refl _) (fun _ _ _=>rfl),h.inj,
  fun i l b h1 h2=>by rw[hw]; exact h.lt i l b h1 h2⟩
theorem RelSt.h_lt (h:RelSt H L σ w){b o:Nat}{v:Value}(hv:H b o=some v):b<w.heap.size:=World.block_lt_of_cell? w _ (h.pers b o v hv)
def zLo (H:Mem)(B:Nat)(us:List Value):Mem:=⟨fun b o=>match H b o with
 | some v=>some v
 | none=>if b=B then us[o]? else none,fun b o v h=>by simp only[H.2 b o v h]⟩
theorem zEO {H:Mem}{B:Nat}{us:List Value}(h:∀o v,H B o=some v→us[o]?=some v)(b o:Nat):zLo H B us b o=if b=B then us[o]? else H b o:=by
 simp only[zLo];cases hh:H b o with
 | some v =>
  simp only;split
  ·rename_i e; subst e; rw[h o v hh]
  ·rfl
 | none=>rfl
theorem RelSt.fresh (hs:RelSt H L σ w)(us:List Value):∀o v,H w.heap.size o=some v→us[o]?=some v:=fun o v hv=>by have:=hs.h_lt hv;omega
theorem zJj (hs:RelSt H L σ w)(us:List Value)(e:TypeId):Nxt H L w (zLo H w.heap.size us) L σ (w.alloc (.cells us.toArray e))∧At (zLo H w.heap.size us) w.heap.size 0 us:=by
 have hA:=zEO (hs.fresh us);have hle:HLe H (zLo H w.heap.size us):=fun b o v hv=>by have:=hs.h_lt hv;simp only[hA];rw[if_neg (by omega)];exact hv
 refine⟨⟨⟨fun b o v hv=>?_,hs.len,fun i l o h1 h2=>?_,hs.inj,fun i l b h1 h2=>?_⟩,⟨rfl,rfl,rfl,by simp,fun k hk _=>heap_alloc_old w _ (h:=hk),hle,fun b o v hv=>?_,jA _,zDA (heap_alloc_old w _)⟩,LLe.refl _,fun b hb=>.inl hb⟩,?_⟩
 ·simp only[hA]at hv;split at hv
  ·rename_i hb;subst hb;rw[World.cell?_alloc_new]
   simpa using hv
  ·rw[World.cell?_alloc_lt _ _ _ (hs.h_lt hv)];exact hs.pers b o v hv
 ·refine(hs.obj i l o h1 h2).carry (fun b hb=>heap_alloc_old w _ (h:=hs.lt i l b h1 hb)) hle (LLe.refl _) (fun b hb o'=>?_);have:=hs.lt i l b h1 hb;simp only[hA];rw[if_neg (by omega)]
 ·have:=hs.lt i l b h1 h2;simp;omega
 ·simp only[hA]at hv;split at hv
  ·rename_i hb; exact .inr (.inr (by omega))
  ·exact .inl hv
 ·intro i u hu;simp[hA,hu]
theorem zX5 (hs:RelSt H L σ w){cs:List A}{us:List Value}(e:TypeId)(hr:zQ H L cs us)(h1:∀u∈us,one u) :
 Nxt H L w H (L++[⟨some w.heap.size,0,0,false⟩]) (σ++[.box cs]) (w.alloc (.cells us.toArray e)):=by
 have hll:=LLe.append L [⟨some w.heap.size,0,0,false⟩];have hget:∀{i:Nat} {l:LI},(L++[⟨some w.heap.size,0,0,false⟩])[i]?=some l→L[i]?=some l∨(i=L.length∧l=⟨some w.heap.size,0,0,false⟩):=by
  intro i l h;rcases jAo i L.length with hi | hi
  ·rw[jAd hi]at h; exact .inl h
  ·rw[jAp hi]at h;have h0:i-L.length=0:=by
    rcases Nat.eq_zero_or_pos (i-L.length)with h0 | h0
    ·exact h0
    ·rw[jB7 (by simp; omega)]at h; cases h
   rw[h0]at h;simp only[jAx,jA0]at h;exact .inr ⟨by omega,h.symm⟩
 refine⟨⟨fun b o v hv=>?_,by simp[hs.len],fun i l o hL hσ=>?_,fun i j l l' b hi hj hb hb'=>?_,fun i l b hL hb=>?_⟩,⟨rfl,rfl,rfl,by simp,fun k hk _=>heap_alloc_old w _ (h:=hk),HLe.refl _,fun b o v hv=>.inl hv,jA _,zDA (heap_alloc_old w _)⟩,hll,fun b ⟨i,l,hL,hb⟩=>?_⟩
 ·rw[World.cell?_alloc_lt _ _ _ (hs.h_lt hv)];exact hs.pers b o v hv
 ·rcases hget hL with hL' | ⟨rfl,rfl⟩
  ·have hi:i<L.length:=(jA1.1 hL').1;rw[jAd (by rw[←hs.len]; exact hi)]at hσ;exact(hs.obj i l o hL' hσ).carry (fun b hb=>heap_alloc_old w _ (h:=hs.lt i l b hL' hb)) (HLe.refl _) hll (fun _ _ _=>rfl)
  ·rw[jAp (by rw[hs.len]; exact jA _)]at hσ;simp only[hs.len,jBw,jAx,jA0]at hσ;subst hσ;simp only[zN];refine⟨trivial,w.heap.size,us,e,rfl,heap_alloc_new w _,zQ.mono (HLe.refl _) hll _ hr,h1,fun o=>?_⟩;cases hH:H w.heap.size o with
   | none=>rfl
   | some v=>have:=hs.h_lt hH; omega
 ·rcases hget hi with hi' | ⟨rfl,rfl⟩
  ·rcases hget hj with hj' | ⟨rfl,rfl⟩
   ·exact hs.inj i j l l' b hi' hj' hb hb'
   ·have:=hs.lt i l b hi' hb;simp only[jA0]at hb';omega
  ·rcases hget hj with hj' | ⟨rfl,rfl⟩
   ·have:=hs.lt j l' b hj' hb';simp only[jA0]at hb;omega
   ·rfl
 ·rcases hget hL with hL' | ⟨rfl,rfl⟩
  ·have:=hs.lt i l b hL' hb;simp;omega
  ·simp only[jA0]at hb;simp;omega
 ·rcases hget hL with hL' | ⟨rfl,rfl⟩
  ·exact .inl ⟨i,l,hL',hb⟩
  ·simp only[jA0]at hb;exact .inr (by omega)
end
end Go.Abs

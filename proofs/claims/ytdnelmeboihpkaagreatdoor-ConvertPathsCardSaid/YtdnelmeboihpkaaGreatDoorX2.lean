/- Soundness of the operations that leave the state alone, all of them. -/
import Derived.Test.YtdnelmeboihpkaaGreatDoorX1
import Derived.Laws.StructEq
import Derived.Laws.CopyRow
import Derived.Laws.Tables
set_option linter.unusedVariables false
set_option maxHeartbeats 8000000
set_option maxRecDepth 100000
set_option linter.unusedSimpArgs false
namespace Go.Abs
section
variable{P:Program}{H:Mem}{L:wL} {U:St}{w:World}{N:Nat}{env:Env}{a:Act}
def bK(P:Program)(H:Mem)(L:wL)(w:World)(a:Act)(o:Oper)(r:A):Prop :=
 ∃v,(execOp a.eval o).run P w=.ok (.value v) w/\Rel H L r v
theorem qR{s:Sem Value}{v:Value}{w':World}(h:s.run P w=.ok v w'):(do pure (Next.value (<-s)):Sem Next).run P w=.ok (.value v) w':=by simp[h]
variable{o:Oper}{t:TypeId}{x:Operand}{u:TypeDesc}{i:TypeInfo}{r:A}
theorem zQQ(ho:o.op=.load t x)(hu:P.underlying t=some u)(hi:P.info? t=some i)
 (he:qG H L N env a.tmps)(hs:RelSt H L U w)(h:((ldA U i.size (ev env x)).bind (fW (zAs u)))=some r):bK P H L w a o r:=by
 rw[jA7]at h;obtain⟨cs,h1,h2⟩:=h;obtain⟨b,off,us,hv,hr,hl,ho1,hc⟩:=zGc hs (qQ he x) h1;obtain⟨v,hrun,hrel⟩:=zCD (w:=w) hu hi hc hl hr ho1 h2;refine⟨v,?_,hrel⟩;unfold execOp;simp only[ho];exact qR (by simp[Instr.loadAt,hv,Instr.sureAddr,hrun])
theorem zFY(ho:o.op=.move x\/o.op=.assign x)(he:qG H L N env a.tmps):bK P H L w a o (ev env x):=by refine⟨a.eval x,?_,qQ he x⟩;unfold execOp;rcases ho with ho|ho<;>simp[ho]
variable{y:Operand}
theorem zLa{c:Operand}{t:Bool}(ho:o.op=.pick c x y)(he:qG H L N env a.tmps)(hc:ev env c=.lit (.bool t)) :
 bK P H L w a o (if t then ev env x else ev env y):=by
 have h:=qQ he c;rw[hc]at h;simp only[Rel]at h;refine⟨if t then a.eval x else a.eval y,?_,?_⟩
 .unfold execOp;simp[ho,h,asBool]
 .cases t
  .exact qQ he y
  .exact qQ he x
variable{fs:Array Field}
theorem zKX{s:TypeId}{f:Nat}{g:Field}(ho:o.op=.fieldAddr s x f)
 (hu:P.underlying s=some (.struct fs))(hg:fs[f]?=some g)(hi:P.info? g.type=some i)(h0:i.size≠0)(he:qG H L N env a.tmps)(hs:RelSt H L U w){p:Prop}
 (h:zR env U (.addr o.dst x g.offset)=some (p,r)):bK P H L w a o r:=by
 have hx:=qQ he x;have fin:∀b off,a.eval x=.pointer (some ⟨b,off,none⟩)->Rel H L r (.pointer (some ⟨b,off+g.offset,none⟩))->bK P H L w a o r:=by intro b off hv hr;refine⟨_,?_,hr⟩;unfold execOp;simp only[ho];refine qR ?_;simp[Instr.fieldAt,run_underlying hu,hg,hv,Instr.sureAddr,fieldPlace,yM hi,h0,Addr.add_lit]
 simp only[zR]at h;split at h<;>try(cases h;done)
 .rename_i l off hxe;cases h;rw[hxe]at hx;simp only[Rel]at hx;obtain⟨li,b,e1,e2,e3,hv⟩:=hx;exact fin b off hv (by simp only[Rel];exact⟨li,b,e1,e2,e3,rfl⟩)
 .rename_i cs hxe;cases h;rw[hxe]at hx;simp only[Rel]at hx;obtain⟨b,off,us,hv,h1,h2,h3⟩:=hx;exact fin b off hv (by simp only[Rel];exact⟨b,off+g.offset,us.drop g.offset,rfl,h1.drop _,fun u hu=>h2 u (jC7 hu),h3.drop _⟩)
 .rename_i l n off hxe;rw[hxe]at hx;simp only[Rel]at hx;obtain⟨ho1,li,e1,e2,e3,hv⟩:=hx;split at h<;>try(cases h;done)
  rename_i fz e sz m ds hds;split at h<;>try(cases h;done)
  rename_i hn;cases h;have hob:=hs.obj l li _ e1 hds;simp only[zV]at hob;obtain⟨b,hb,hv⟩:=hv (by rw[hn,hob.2.1]);exact fin b off hv (by simp only[Rel];exact⟨rfl,li,e1,e2,e3,fun _=>⟨b,hb,rfl⟩⟩)
theorem nU(k:IntKind)(j:Int):(asIntOf (.int k j)).run P w=.ok (k,j) w:=rfl
variable{e:TypeId}{ti:TypeInfo}
theorem zOb{i:Operand}(ho:o.op=.indexAddr t x i)
 (hu:P.underlying t=some (.slice e))(hi:P.info? e=some ti)(he:qG H L N env a.tmps)(hs:RelSt H L U w){p:Prop}
 (h:zR env U (.idx o.dst x i ti.size)=some (p,r))(hp:p):bK P H L w a o r:=by
 have hx:=qQ he x;have hy:=qQ he i;have fin:∀b off n cap (k:IntKind) (j:Int),a.eval x=.slice (some ⟨b,off,none⟩) n cap->a.eval i=.int k j->0<=j->j<n ->
  Rel H L r (.pointer (some ⟨b,off+j.toNat*ti.size,none⟩))->bK P H L w a o r:=by
  intro b off n cap k j hv hj h0 h1 hr;refine⟨_,?_,hr⟩;unfold execOp;simp only[ho];refine qR ?_;simp[Instr.indexAt,run_underlying hu,hv,hj,nU,yM hi,Addr.add_lit,h0,h1]
 simp only[zR]at h;split at h<;>try(cases h;done)
 .rename_i n cs k j hxe hye;cases h;rw[hxe]at hx;rw[hye]at hy;simp only[Rel]at hx hy;obtain⟨ad,cap,hv,h1,h2,h3⟩:=hx;obtain⟨⟨h4,h5⟩,h6⟩:=hp;rcases h3 with ⟨rfl,rfl⟩|⟨b,off,us,rfl,g1,g2,g3⟩
  .simp at h6
  .exact fin b off n cap k j hv hy h4 h5 (by simp only[Rel];exact⟨b,_,us.drop _,rfl,g1.drop _,fun u hu=>g2 u (jC7 hu),g3.drop _⟩)
 .rename_i n cs k j hxe hye;cases h;rw[hxe]at hx;rw[hye]at hy;simp only[Rel]at hx hy;obtain⟨ad,hv,h2,h3⟩:=hx;obtain⟨⟨h4,h5⟩,h6⟩:=hp;rcases h3 with ⟨rfl,rfl⟩|⟨b,off,us,rfl,g1,g2,g3⟩
  .simp at h6
  .exact fin b off n n k j hv hy h4 h5 (by simp only[Rel];exact⟨b,_,us.drop _,rfl,g1.drop _,fun u hu=>g2 u (jC7 hu),g3.drop _⟩)
 .rename_i l n k j hxe hye;split at h<;>try(cases h;done)
  rename_i fz e' sz m ds hds;split at h<;>try(cases h;done)
  rename_i hn;obtain⟨hn,rfl⟩:=hn;cases h;rw[hxe]at hx;rw[hye]at hy;simp only[Rel]at hx hy;obtain⟨ho1,li,e1,e2,e3,hv⟩:=hx;have hob:=hs.obj l li _ e1 hds;simp only[zV]at hob;obtain⟨_,hlen,_,hob⟩:=hob;have hv:=hv (by rw[hn,hlen]);rcases hob with ⟨_,h0⟩|⟨b,cur,hb,_⟩
  .exfalso;have:=hp.1;have:=hp.2;omega
  .rw[hb]at hv;simp only at hv;have:=fin b 0 n li.cap k j hv hy hp.1 hp.2 (by simp only[Rel];exact⟨rfl,li,e1,e2,e3,fun _=>⟨b,hb,by simp⟩⟩);exact this
 .rename_i l n off k' _ k j hxe hye;split at h<;>try(cases h;done)
  rename_i fz e' sz m ds hds;split at h<;>try(cases h;done)
  rename_i hn;obtain⟨hn,rfl⟩:=hn;cases h;rw[hxe]at hx;rw[hye]at hy;simp only[Rel]at hx hy;obtain⟨ho1,li,e1,e2,e3,hv⟩:=hx;have hob:=hs.obj l li _ e1 hds;simp only[zV]at hob;obtain⟨_,hlen,_,hob⟩:=hob;obtain⟨_,ad,cap,hv,_,_,g3⟩:=hv (by rw[hn,hlen]);rcases g3 with g3|⟨b,hb,rfl,_⟩
  .exfalso;have:=hp.1;have:=hp.2;omega
  .exact fin b off k' cap k j hv hy hp.1 hp.2 (by simp only[Rel];exact⟨rfl,li,e1,e2,e3,fun _=>⟨b,hb,rfl⟩⟩)
theorem zHc{i:Operand}{n:Nat}(ho:o.op=.indexAddr t x i)
 (hu:P.underlying t=some (.array n e))(hi:P.info? e=some ti)(he:qG H L N env a.tmps){p:Prop}
 (h:zR env U (.idxarr o.dst x i n ti.size)=some (p,r))(hp:p):bK P H L w a o r:=by
 have hx:=qQ he x;have hy:=qQ he i;simp only[zR]at h;split at h<;>try(cases h;done)
 rotate_left
 .rename_i cs k j hxe hye;cases h;rw[hxe]at hx;rw[hye]at hy;simp only[Rel]at hx hy;obtain⟨b,off,us,hv,g1,g2,g3⟩:=hx;refine⟨.pointer (some ⟨b,off+j.toNat*ti.size,none⟩),?_,by simp only[Rel];exact⟨b,_,_,rfl,g1.drop _,fun u hu=>g2 u (jC7 hu),g3.drop _⟩⟩;unfold execOp;simp only[ho];refine qR ?_;simp[Instr.indexAt,Instr.sureAddr,run_underlying hu,hv,hy,nU,yM hi,Addr.add_lit,hp.1.1,hp.1.2]
 rename_i l off k j hxe hye;cases h;rw[hxe]at hx;rw[hye]at hy;simp only[Rel]at hx hy;obtain⟨li,b,e1,e2,e3,hv⟩:=hx;refine⟨.pointer (some ⟨b,off+j.toNat*ti.size,none⟩),?_,by simp only[Rel];exact⟨li,b,e1,e2,e3,rfl⟩⟩;unfold execOp;simp only[ho];refine qR ?_;simp[Instr.indexAt,Instr.sureAddr,run_underlying hu,hv,hy,nU,yM hi,Addr.add_lit,hp.1,hp.2]
theorem zJI(hu:P.underlying t=some u)(hi:P.info? t=some i){vs:wK}{cs:wE}(hr:z8 H L cs vs)(h1:∀x∈vs,one x)
 {off:Nat}(h:(sub cs off i.size).bind (fW (zAs u))=some r):∃v,(part t vs.toArray off).run P w=.ok v w/\Rel H L r v:=by
 rw[jA7]at h;obtain⟨ds,g1,g2⟩:=h;obtain⟨g3,g4⟩:=zDb g1 hr;unfold part;rw[Sem.run_bind,mT hu,Result.andThen_ok];cases hag:zAs u with
 |true =>
  rw[hag]at g2;simp only[fW,jA2]at g2;subst g2;refine⟨.agg ((vs.drop off).take i.size).toArray,?_,by simp only[Rel];exact⟨_,rfl,g3,cX h1⟩⟩;simp only[if_true,Sem.run_bind,yM hi,Result.andThen_ok,Sem.run_pure]
  congr 2
  apply jCm;simp[List.extract_eq_take_drop]
 |false =>
  rw[hag]at g2;cases ds with
  |nil=>simp[fW]at g2
  |cons c ds =>
   cases ds with
   |cons c' ds=>simp[fW]at g2
   |nil =>
    simp only[fW,jA2]at g2;subst g2;obtain⟨v,us,e,k1,k2⟩:=qC g3;have hv:vs[off]?=some v:=by
     have:((vs.drop off).take i.size)[0]?=some v:=by rw[e];rfl
     simpa using lH this
    refine⟨v,?_,k1⟩;simp[hv]
theorem zOa{f:Nat}{g:Field}(ho:o.op=.field t x f)
 (hut:P.underlying t=some (.struct fs))(hg:fs[f]?=some g)(hu:P.underlying g.type=some u)(hi:P.info? g.type=some i)(he:qG H L N env a.tmps){p:Prop}
 (h:zR env U (.fld o.dst x g.offset i.size (zAs u))=some (p,r)):bK P H L w a o r:=by
 have hx:=qQ he x;simp only[zR]at h;split at h<;>try(cases h;done)
 rename_i cs hxe;rw[hxe]at hx;simp only[Rel]at hx;obtain⟨vs,hv,h1,h2⟩:=hx;simp only[jAf,jBt]at h;obtain⟨r',h3,_,rfl⟩:=h;obtain⟨v,hrun,hrel⟩:=zJI (w:=w) hu hi h1 h2 h3;refine⟨v,?_,hrel⟩;unfold execOp;simp only[ho];refine qR ?_;simp[Instr.field,run_underlying hut,hg,hv,asAgg,hrun]
theorem zQP{n:Nat}(ho:o.op=.index t x y)
 (hut:P.underlying t=some (.array n e))(hu:P.underlying e=some u)(hi:P.info? e=some i)(he:qG H L N env a.tmps){p:Prop}
 (h:zR env U (.ix o.dst x y n i.size (zAs u))=some (p,r))(hp:p):bK P H L w a o r:=by
 have hx:=qQ he x;have hy:=qQ he y;simp only[zR]at h;split at h<;>try(cases h;done)
 rename_i cs k j hxe hye;rw[hxe]at hx;rw[hye]at hy;simp only[Rel]at hx hy;obtain⟨vs,hv,h1,h2⟩:=hx;simp only[jAf,jBt]at h;obtain⟨r',h3,rfl,rfl⟩:=h;obtain⟨v,hrun,hrel⟩:=zJI (w:=w) hu hi h1 h2 h3;refine⟨v,?_,hrel⟩;unfold execOp;simp only[ho];refine qR ?_;simp[Instr.index,run_underlying hut,hv,hy,nU,hp.1,hp.2,yM hi,hrun]
theorem zCt(op:BinOp)(t:TypeId)(x y:Operand)(k k':IntKind)(m n:Int):(eqGuard op t x y (.int k m) (.int k' n)).run P w=.ok () w:=by unfold eqGuard;cases op<;>rfl
theorem zNX{op:BinOp}{t':TypeId}(ho:o.op=.binOp op t x y t')(he:qG H L N env a.tmps){p:Prop}
 (h:zR env U (.bin o.dst op x y)=some (p,r))(hp:p):bK P H L w a o r:=by
 have hx:=qQ he x;have hy:=qQ he y;simp only[zR]at h;split at h<;>try(cases h;done)
 case h_2 sa sb hxe hye =>
  rw[hxe]at hx;rw[hye]at hy;simp only[Rel]at hx hy;cases op<;>simp only[zSj]at h<;>try(cases h;done)
  simp only[jA2,jBt]at h;obtain⟨rfl,rfl⟩:=h;refine⟨.string (sa++sb),?_,by simp[Rel]⟩;unfold execOp;simp only[ho];refine qR ?_;have e2:IntKind.i64.max=9223372036854775807:=by decide
  have hle:¬((sa.size+sb.size:Nat):Int) > IntKind.i64.max:=by rw[e2];omega
  rw[hx,hy];simp only[eqGuard,binOp,Op.stringOp];rw[if_neg hle];rfl
 rename_i k m k' n hxe hye;split at h<;>try(cases h;done)
 rename_i hk;subst hk;rw[hxe]at hx;rw[hye]at hy;simp only[Rel]at hx hy;have fin:∀v,(binOp op t (.int k m) (.int k n)).run P w=.ok v w->Rel H L r v->bK P H L w a o r:=by intro v hr hrel;refine⟨v,?_,hrel⟩;unfold execOp;simp only[ho];refine qR ?_;rw[Sem.run_bind,hx,hy,zCt,Result.andThen_ok,hr]
 cases op<;>simp only[pH]at h<;>try(cases h;done)
 all_goals (simp only[jA2,jBt]at h;obtain⟨hpp,hrr⟩:=h;subst hrr;subst hpp)
 case h_1.isTrue.add=>exact fin (.int k (k.wrap (m+n))) (by simp[binOp,Op.intArith]) (by simp[Rel])
 case h_1.isTrue.sub=>exact fin (.int k (k.wrap (m-n))) (by simp[binOp,Op.intArith]) (by simp[Rel])
 case h_1.isTrue.mul=>exact fin (.int k (k.wrap (m*n))) (by simp[binOp,Op.intArith]) (by simp[Rel])
 case h_1.isTrue.quo=>exact fin (.int k (k.wrap (m.tdiv n))) (by simp[binOp,Op.intDiv,hp]) (by simp[Rel])
 case h_1.isTrue.rem=>exact fin (.int k (m.tmod n)) (by simp[binOp,Op.intDiv,hp]) (by simp[Rel])
 case h_1.isTrue.lss=>exact fin (.bool (decide (m<n))) (by simp[binOp,Op.intCmp]) (by simp[Rel])
 case h_1.isTrue.leq=>exact fin (.bool (decide (m<=n))) (by simp[binOp,Op.intCmp]) (by simp[Rel])
 case h_1.isTrue.gtr=>exact fin (.bool (decide (n<m))) (by simp[binOp,Op.intCmp]) (by simp[Rel])
 case h_1.isTrue.geq=>exact fin (.bool (decide (n<=m))) (by simp[binOp,Op.intCmp]) (by simp[Rel])
theorem zOd(ho:o.op=.makeInterface t x)(hu:P.underlying t=some u)(hn:∀ms,u≠.interface ms)(he:qG H L N env a.tmps){p:Prop}
 (h:zR env U (.mki o.dst t x)=some (p,r)):bK P H L w a o r:=by
 have hx:=qQ he x;simp only[zR,jA2,jBt]at h;obtain⟨_,rfl⟩:=h;refine⟨.iface t (a.eval x),?_,?_⟩
 .unfold execOp;simp only[ho];refine qR ?_;simp only[Instr.makeInterface,Sem.run_bind,run_underlying hu,Result.andThen_ok];cases u<;>first|rfl|exact(hn _ rfl).elim
 .split
  .rename_i v hv;rw[hv]at hx;simp only[Rel]at hx;simp[Rel,hx]
  .simp[Rel]
theorem zOe(ho:o.op=.unOp .neg t x)(he:qG H L N env a.tmps){p:Prop}
 (h:zR env U (.neg o.dst x)=some (p,r)):bK P H L w a o r:=by
 have hx:=qQ he x;simp only[zR]at h;split at h<;>try(cases h;done)
 rename_i k m hxe;cases h;rw[hxe]at hx;simp only[Rel]at hx;refine⟨.int k (k.wrap (0-m)),?_,by simp[Rel]⟩;unfold execOp;simp[ho,hx,Op.unary,Op.intArith]
theorem zOf(ho:o.op=.unOp .not t x)(he:qG H L N env a.tmps){p:Prop}
 (h:zR env U (.not o.dst x)=some (p,r)):bK P H L w a o r:=by
 have hx:=qQ he x;simp only[zR]at h;split at h<;>try(cases h;done)
 rename_i b hxe;cases h;rw[hxe]at hx;simp only[Rel]at hx;refine⟨.bool !b,?_,by simp[Rel]⟩;unfold execOp;simp[ho,hx,Op.unary]
theorem zNZ{i:Nat}(ho:o.op=.extract x i)(he:qG H L N env a.tmps){p:Prop}
 (h:zR env U (.ext o.dst x i)=some (p,r)):bK P H L w a o r:=by
 have hx:=qQ he x;simp only[zR]at h;split at h<;>try(cases h;done)
 rename_i cs hxe;rw[hxe]at hx;simp only[Rel]at hx;obtain⟨vs,hv,h1⟩:=hx;simp only[jAf,jBt]at h;obtain⟨r',h3,_,rfl⟩:=h;obtain⟨v,hg,hrel⟩:=h1.get h3;refine⟨v,?_,hrel⟩;unfold execOp;simp[ho,hv,Instr.extract,hg]
theorem zKZ(ho:o.op=.nilCheck x)(he:qG H L N env a.tmps){p:Prop}
 (h:zR env U (.nilc o.dst x)=some (p,r)):bK P H L w a o r:=by
 have hx:=qQ he x;simp only[zR]at h;split at h<;>try(cases h;done)
 all_goals
  rename_i hxe;cases h;rw[hxe]at hx;have hx':=hx;simp only[Rel]at hx'
 .obtain⟨li,b,_,_,_,hv⟩:=hx';refine⟨_,?_,hx⟩;unfold execOp;simp only[ho,hv];rfl
 .obtain⟨b,o',us,hv,_⟩:=hx';refine⟨_,?_,hx⟩;unfold execOp;simp only[ho,hv];rfl
theorem vK(he:qG H L N env a.tmps):∀(xs:List Operand),z8 H L (xs.map (ev env)) (xs.map a.eval)
 |[]=>jR
 |x::xs=>qV (qQ he x) (vK he xs)
theorem zNY{f:FuncId}{first cap:Array Operand}(ho:o.op=.makeFunc (.func f) first cap)(he:qG H L N env a.tmps) :
 bK P H L w a o (.clo f (first.toList.map (ev env)) (cap.toList.map (ev env))):=by
 refine⟨.func (.func f) (first.map a.eval) (cap.map a.eval),?_,?_⟩
 .unfold execOp;simp[ho,Instr.makeFunc]
 .simp only[Rel];refine⟨first.toList.map a.eval,cap.toList.map a.eval,?_,vK he _,vK he _⟩
  congr 1<;>exact jCm (by simp)
variable{c:Call}
theorem zOc(ho:o.op=.call c)(hc:c.callee=.builtin .len)(ha:c.args.toList=[x])(ht:c.argTypes[0]?=some t)
 (hu:P.underlying t=some (.slice e))(he:qG H L N env a.tmps)(hs:RelSt H L U w){p:Prop}
 (h:zR env U (.len o.dst false x)=some (p,r)):bK P H L w a o r:=by
 have hx:=qQ he x;have ha':c.args = #[x]:=by cases hh:c.args;simp_all
 have fin:∀(n:Nat) ad cap,a.eval x=.slice ad n cap->r=.lit (.int .i64 n)->bK P H L w a o r:=by rintro n ad cap hv rfl;refine⟨.int .i64 n,?_,by simp[Rel]⟩;unfold execOp;simp[ho,resolve,hc,invoke,builtin,ha',hv,Builtin.len_,ht,run_underlying hu,goInt]
 simp only[zR]at h;split at h<;>try(cases h;done)
 .rename_i hxe;rw[hxe]at hx;simp only[Rel]at hx;cases h;exact fin 0 _ _ hx rfl
 .rename_i n cs hxe;rw[hxe]at hx;simp only[Rel]at hx;obtain⟨ad,cap,hv,_⟩:=hx;cases h;exact fin n _ _ hv rfl
 .rename_i n cs hxe;rw[hxe]at hx;simp only[Rel]at hx;obtain⟨ad,hv,_⟩:=hx;cases h;exact fin n _ _ hv rfl
 .rename_i l n hxe;rw[hxe]at hx;simp only[Rel]at hx;split at h<;>try(cases h;done)
  rename_i fz e' sz m ds hds;split at h<;>try(cases h;done)
  rename_i hn;cases h;obtain⟨_,li,e1,e2,e3,hv⟩:=hx;have hob:=hs.obj l li _ e1 hds;simp only[zV]at hob;have hv:=hv (by rw[hn,hob.2.1]);cases hb:li.block with
  |none =>
   rw[hb]at hv;rcases hob.2.2.2 with ⟨_,h0⟩|⟨b,cur,hb',_⟩
   .subst hn;subst h0;exact fin _ _ _ hv rfl
   .rw[hb]at hb';cases hb'
  |some b=>rw[hb]at hv;exact fin _ _ _ hv rfl
 .rename_i l n off k' _ hxe;rw[hxe]at hx;simp only[Rel]at hx;split at h<;>try(cases h;done)
  rename_i fz e' sz m ds hds;split at h<;>try(cases h;done)
  rename_i hn;cases h;obtain⟨_,li,e1,e2,e3,hv⟩:=hx;have hob:=hs.obj l li _ e1 hds;simp only[zV]at hob;obtain⟨_,ad,cap,hv,_⟩:=hv (by rw[hn,hob.2.1]);exact fin _ _ _ hv rfl
theorem zKY(ho:o.op=.call c)(hc:c.callee=.builtin .len)(ha:c.args.toList=[x])(ht:c.argTypes[0]?=some t)
 (hu:P.underlying t=some .string)(he:qG H L N env a.tmps){p:Prop}
 (h:zR env U (.len o.dst true x)=some (p,r)):bK P H L w a o r:=by
 have hx:=qQ he x;have ha':c.args = #[x]:=by cases hh:c.args;simp_all
 simp only[zR]at h;split at h<;>try(cases h;done)
 rename_i s hxe;rw[hxe]at hx;simp only[Rel]at hx;cases h;refine⟨.int .i64 s.size,?_,by simp[Rel]⟩;unfold execOp;simp[ho,resolve,hc,invoke,builtin,ha',hx,Builtin.len_,ht,run_underlying hu,goInt]
theorem zEa(mx:Bool):∀(xs:wE) (vs:wK) (k:IntKind) (m:Int) (r:A),z8 H L xs vs->uI mx m xs k=some r ->
 ∃v,(vs.foldlM (if mx then Builtin.max2 else Builtin.min2) (.int k m)).run P w=.ok v w/\Rel H L r v
 |[],vs,k,m,r,hr,h=>by have:=jK hr;subst this;simp only[uI,jA2]at h;subst h;exact⟨.int k m,by simp,by simp[Rel]⟩
 |x::xs,vs,k,m,r,hr,h=>by
  obtain⟨u,us,rfl,h1,h2⟩:=qC hr;unfold uI at h;split at h<;>try(cases h;done)
  .rename_i heq;cases heq
  .rename_i k' b rest heq;cases heq;split at h<;>try(cases h;done)
   rename_i hk;subst hk;simp only[Rel]at h1;subst h1;obtain⟨v,hrun,hrel⟩:=zEa mx xs us k' _ r h2 h;refine⟨v,?_,hrel⟩;rw[List.foldlM_cons,Sem.run_bind];cases mx
   .simpa[Builtin.min2]using hrun
   .simpa[Builtin.max2]using hrun
theorem zIP{mx:Bool}(ho:o.op=.call c)(hc:c.callee=.builtin (if mx then .max else .min))(he:qG H L N env a.tmps){p:Prop}
 (h:zR env U (.mm o.dst mx c.args.toList)=some (p,r)):bK P H L w a o r:=by
 have hx:=vK he c.args.toList;simp only[zR]at h;split at h<;>try(cases h;done)
 rename_i k m rest hm;simp only[jAf,jBt]at h;obtain⟨r',h3,_,rfl⟩:=h;rw[hm]at hx;obtain⟨u,us,e,h1,h2⟩:=qC hx;simp only[Rel]at h1;subst h1;obtain⟨v,hrun,hrel⟩:=zEa (P:=P) (w:=w) mx rest us k m r' h2 h3;refine⟨v,?_,hrel⟩;unfold execOp;cases mx
 .simp only[jAi,if_false]at hc hrun;simp[ho,resolve,hc,invoke,builtin,Builtin.min_,e,hrun]
 .simp only[if_true]at hc hrun;simp[ho,resolve,hc,invoke,builtin,Builtin.max_,e,hrun]
end
end Go.Abs
namespace Go.Abs
section
variable{P:Program}{H:Mem}{L:wL} {U:St}{w:World}{N:Nat}{env:Env}{a:Act}
variable{x:Operand}{l:Int}
theorem iY(he:qG H L N env a.tmps){d:Nat}(h:qX env d (some x)=some l):∃k,a.eval x=.int k l:=by
 have hx:=qQ he x;simp only[qX]at h;split at h<;>try(cases h;done)
 rename_i k j hxe;cases h;rw[hxe]at hx;simp only[Rel]at hx;exact⟨k,hx⟩
theorem a8{k:IntKind}{i:Int}{y:Nat}{code:BoundsCode}(h0:0<=i)(h1:i<=y):(Instr.sliceBound (.int k i) y code).run P w=.ok i.toNat w:=by simp[Instr.sliceBound,asIntOf,h0,h1]
variable{lo hi:Option Operand}
theorem bS(he:qG H L N env a.tmps){n cap:Nat}{h:Int}(hl:qX env 0 lo=some l)(hh:qX env n hi=some h)
 (h0:0<=l)(h1:l<=h)(h2:h<=n)(hc:n<=cap):(Instr.sliceBounds true n cap (lo.map a.eval) (hi.map a.eval) none).run P w=.ok (l.toNat,h.toNat,cap) w:=by
 unfold Instr.sliceBounds;cases hi with
 |none =>
  simp only[qX,jA2]at hh;subst hh;cases lo with
  |none =>
   simp only[qX,jA2]at hl;subst hl;simp
  |some x =>
   obtain⟨k,hx⟩:=iY he hl;have h1':l<=((n:Nat):Int):=h1;simp[hx,a8 h0 h1']
 |some y =>
  obtain⟨k,hy⟩:=iY he hh;have h0':0<=h:=by omega
  have h2':h<=((cap:Nat):Int):=by omega
  cases lo with
  |none =>
   simp only[qX,jA2]at hl;subst hl;simp[hy,a8 h0' h2']
  |some x =>
   obtain⟨k',hx⟩:=iY he hl;have h1':l<=((h.toNat:Nat):Int):=by omega
   simp[hy,hx,a8 h0' h2',a8 h0 h1']
theorem iQ(he:qG H L N env a.tmps){n cap:Nat}{hi mx:Operand}{h m:Int}(hl:qX env 0 lo=some l)(hh:qX env n (some hi)=some h)
 (hm:qX env n (some mx)=some m)(h0:0<=l)(h1:l<=h)(h2:h<=n)(hmh:m=h)(hc:n<=cap) :
 (Instr.sliceBounds true n cap (lo.map a.eval) (some (a.eval hi)) (some (a.eval mx))).run P w=.ok (l.toNat,h.toNat,h.toNat) w:=by
 subst hmh;obtain⟨k,hy⟩:=iY he hh;obtain⟨k',hz⟩:=iY he hm;have h0':0<=m:=by omega
 have h2':m<=((cap:Nat):Int):=by omega
 have h3':m<=((m.toNat:Nat):Int):=by omega
 unfold Instr.sliceBounds;cases lo with
 |none =>
  simp only[qX,jA2]at hl;subst hl;simp[hy,hz,a8 h0' h2',a8 h0' h3']
 |some x =>
  obtain⟨k'',hx⟩:=iY he hl;have h1':l<=((m.toNat:Nat):Int):=by omega
  simp[hy,hz,hx,a8 h0' h2',a8 h0' h3',a8 h0 h1']
variable{i:TypeInfo}{o:Oper}{t e:TypeId}{r:A}
theorem zOg{mx:Option Operand}(ho:o.op=.slice t x lo hi mx)
 (hu:P.underlying t=some (.slice e))(hi':P.info? e=some i)(he:qG H L N env a.tmps){p:Prop}
 (h:zR env U (.slc o.dst x i.size lo hi mx)=some (p,r))(hp:p):bK P H L w a o r:=by
 have hx:=qQ he x;have fin:∀ad n cap l h m,a.eval x=.slice ad n cap->(Instr.sliceBounds true n cap (lo.map a.eval) (hi.map a.eval) (mx.map a.eval)).run P w=.ok (l,h,m) w ->
  Rel H L r (.slice (if m=l then ad else ad.map (·.add (l*i.size))) (h-l) (m-l))->bK P H L w a o r:=by
  intro ad n cap l h m hv hb hr;refine⟨_,?_,hr⟩;unfold execOp;simp only[ho];refine qR ?_;simp[Instr.sliceAt,Instr.slice,run_underlying hu,hv,hb,yM hi']
 have part2:∀(ad:Option Addr) (n cap:Nat) (cs:wE) (l h:Int),n<=cap->cap<=maxLen->(n=0/\cs=[]\/∃b o,∃us:wK,ad=some ⟨b,o,none⟩/\z8 H L cs us/\(∀u∈us,one u)/\At H b o us) ->
  0<=l->l<=h->h<=n->Rel H L (.sl (h-l).toNat ((cs.drop (l.toNat*i.size)).take ((h-l).toNat*i.size))) (.slice (if cap=l.toNat then ad else ad.map (·.add (l.toNat*i.size))) (h.toNat-l.toNat) (cap-l.toNat)):=by
  intro ad n cap cs l h hc hm hcs h0 h1 h2;have e1:h.toNat-l.toNat=(h-l).toNat:=by omega
  simp only[Rel,e1];refine⟨_,_,rfl,by omega,by omega,?_⟩;by_cases hz:(h-l).toNat=0
  .exact .inl ⟨hz,by simp[hz]⟩
  .right;have hne:¬cap=l.toNat:=by omega
   rcases hcs with ⟨rfl,rfl⟩|⟨b,off,us,rfl,g1,g2,g3⟩
   .omega
   .refine⟨b,off+l.toNat*i.size,_,?_,(g1.drop _).take _,cX g2,(g3.drop _).take _⟩;simp[hne,Addr.add_lit]
 have part3:∀(ad:Option Addr) (n cap:Nat) (cs:wE) (l h:Int),n<=cap->cap<=maxLen->(n=0/\cs=[]\/∃b o,∃us:wK,ad=some ⟨b,o,none⟩/\z8 H L cs us/\(∀u∈us,one u)/\At H b o us) ->
  0<=l->l<=h->h<=n->Rel H L (.fsl (h-l).toNat ((cs.drop (l.toNat*i.size)).take ((h-l).toNat*i.size))) (.slice (if h.toNat=l.toNat then ad else ad.map (·.add (l.toNat*i.size))) (h.toNat-l.toNat) (h.toNat-l.toNat)):=by
  intro ad n cap cs l h hc hm hcs h0 h1 h2;have e1:h.toNat-l.toNat=(h-l).toNat:=by omega
  simp only[Rel,e1];refine⟨_,rfl,by omega,?_⟩;by_cases hz:(h-l).toNat=0
  .exact .inl ⟨hz,by simp[hz]⟩
  .right;have hne:¬h.toNat=l.toNat:=by omega
   rcases hcs with ⟨rfl,rfl⟩|⟨b,off,us,rfl,g1,g2,g3⟩
   .omega
   .refine⟨b,off+l.toNat*i.size,_,?_,(g1.drop _).take _,cX g2,(g3.drop _).take _⟩;simp[hne,Addr.add_lit]
 cases mx with
 |none =>
  simp only[zR]at h;split at h<;>try(cases h;done)
  .rename_i n cs hxe;split at h<;>try(cases h;done)
   rename_i l hh hl hhb;cases h;rw[hxe]at hx;simp only[Rel]at hx;obtain⟨ad,cap,hv,g1,g2,g3⟩:=hx;exact fin ad n cap _ _ _ hv (bS he hl hhb hp.1 hp.2.1 hp.2.2 g1) (part2 ad n cap cs l hh g1 g2 g3 hp.1 hp.2.1 hp.2.2)
  .rename_i n cs hxe;split at h<;>try(cases h;done)
   rename_i l hh hl hhb;cases h;rw[hxe]at hx;simp only[Rel]at hx;obtain⟨ad,hv,g2,g3⟩:=hx;exact fin ad n n _ _ _ hv (bS he hl hhb hp.1 hp.2.1 hp.2.2 (jA _)) (part2 ad n n cs l hh (jA _) g2 g3 hp.1 hp.2.1 hp.2.2)
  .rename_i hxe;split at h<;>try(cases h;done)
   rename_i l hh hl hhb;cases h;rw[hxe]at hx;simp only[Rel]at hx;obtain⟨rfl,rfl⟩:=hp;exact fin none 0 0 _ _ _ hx (bS (n:=0) (cap:=0) he hl hhb (by omega) (by omega) (by simp) (by omega)) (by simp[Rel])
 |some mx =>
  cases hi with
  |none=>simp only[zR]at h;cases h
  |some hi =>
   simp only[zR]at h;split at h<;>try(cases h;done)
   .rename_i n cs hxe;split at h<;>try(cases h;done)
    rename_i l hh m hl hhb hmb;cases h;rw[hxe]at hx;simp only[Rel]at hx;obtain⟨ad,cap,hv,g1,g2,g3⟩:=hx;exact fin ad n cap _ _ _ hv (iQ he hl hhb hmb hp.1.1 hp.1.2.1 hp.1.2.2 hp.2 g1) (part3 ad n cap cs l hh g1 g2 g3 hp.1.1 hp.1.2.1 hp.1.2.2)
   .rename_i n cs hxe;split at h<;>try(cases h;done)
    rename_i l hh m hl hhb hmb;cases h;rw[hxe]at hx;simp only[Rel]at hx;obtain⟨ad,hv,g2,g3⟩:=hx;exact fin ad n n _ _ _ hv (iQ he hl hhb hmb hp.1.1 hp.1.2.1 hp.1.2.2 hp.2 (jA _)) (part3 ad n n cs l hh (jA _) g2 g3 hp.1.1 hp.1.2.1 hp.1.2.2)
   .rename_i hxe;split at h<;>try(cases h;done)
    rename_i l hh m hl hhb hmb;cases h;rw[hxe]at hx;simp only[Rel]at hx;obtain⟨⟨rfl,rfl⟩,rfl⟩:=hp;exact fin none 0 0 _ _ _ hx (iQ (n:=0) (cap:=0) he hl hhb hmb (by omega) (by omega) (by simp) rfl (by omega)) (by simp[Rel])
theorem zLb(ho:o.op=.slice t x lo hi none)
 (hu:P.underlying t=some (.slice e))(hi':P.info? e=some i)(he:qG H L N env a.tmps)(hs:RelSt H L U w){p:Prop}
 (h:zR env U (.rslc o.dst x i.size lo hi)=some (p,r))(hp:p):bK P H L w a o r:=by
 have hx:=qQ he x;have fin:∀ad n cap l h m,a.eval x=.slice ad n cap->(Instr.sliceBounds true n cap (lo.map a.eval) (hi.map a.eval) none).run P w=.ok (l,h,m) w ->
  Rel H L r (.slice (if m=l then ad else ad.map (·.add (l*i.size))) (h-l) (m-l))->bK P H L w a o r:=by
  intro ad n cap l h m hv hb hr;refine⟨_,?_,hr⟩;unfold execOp;simp only[ho];refine qR ?_;simp[Instr.sliceAt,Instr.slice,run_underlying hu,hv,hb,yM hi']
 simp only[zR]at h;split at h<;>try(cases h;done)
 .rename_i l n hxe;split at h<;>try(cases h;done)
  rename_i fz e' sz m ds hds;split at h<;>try(cases h;done)
  rename_i hn;obtain⟨hn,rfl⟩:=hn;split at h<;>try(cases h;done)
  rename_i l' hh hl hhb;cases h;rw[hxe]at hx;simp only[Rel]at hx;obtain⟨_,li,e1,e2,e3,hv⟩:=hx;have hob:=hs.obj l li _ e1 hds;simp only[zV]at hob;obtain⟨_,hlen,_,hob⟩:=hob;have hv:=hv (by rw[hn,hlen]);obtain⟨p1,p2,p3⟩:=hp;rcases hob with ⟨hb,h0⟩|⟨b,cur,hb,_,k2,k3,_⟩
  .rw[hb]at hv;have hn0:n=0:=by omega
   have hv':a.eval x=.slice none n 0:=by rw[hn0];exact hv
   refine fin none n 0 _ _ _ hv' (bS he hl hhb p1 p2 p3 (by omega)) ?_;have hkz:(hh-l').toNat=0:=by omega
   have e5:hh.toNat-l'.toNat=0:=by omega
   simp only[Rel,hkz,e5];refine⟨rfl,li,e1,e2,e3,fun _=>⟨jB3 _,_,_,rfl,jB3 _,by omega,.inl (by omega)⟩⟩
  .rw[hb]at hv;refine fin _ n li.cap _ _ _ hv (bS he hl hhb p1 p2 p3 (by omega)) ?_;have e5:hh.toNat-l'.toNat=(hh-l').toNat:=by omega
   simp only[Rel,e5];refine⟨rfl,li,e1,e2,e3,fun _=>⟨by omega,_,_,rfl,by omega,by omega,?_⟩⟩;by_cases hz:li.cap-l'.toNat=0
   .exact .inl hz
   .have hne:¬li.cap=l'.toNat:=by omega
    refine .inr ⟨b,hb,by simp[hne,Addr.add_lit],?_⟩;rw[<-jB1,Nat.add_sub_cancel' (by omega)];exact jA _
 .rename_i l n off k' c hxe;split at h<;>try(cases h;done)
  rename_i fz e' sz m ds hds;split at h<;>try(cases h;done)
  rename_i hn;obtain⟨hn,rfl⟩:=hn;split at h<;>try(cases h;done)
  rename_i l' hh hl hhb;cases h;rw[hxe]at hx;simp only[Rel]at hx;obtain⟨_,li,e1,e2,e3,hv⟩:=hx;have hob:=hs.obj l li _ e1 hds;simp only[zV]at hob;obtain⟨_,hlen,_,hob⟩:=hob;obtain⟨⟨p1,p2,p3⟩,rfl⟩:=hp;obtain⟨g0,ad,cap,hv2,g1,g2,g3⟩:=hv (by rw[hn,hlen]);refine fin _ k' cap _ _ _ hv2 (bS he hl hhb p1 p2 p3 g1) ?_;have e5:hh.toNat-l'.toNat=(hh-l').toNat:=by omega
  simp only[Rel,e5];refine⟨rfl,li,e1,e2,e3,fun _=>⟨by omega,_,_,rfl,by omega,by omega,?_⟩⟩;by_cases hz:cap-l'.toNat=0
  .exact .inl hz
  .have hne:¬cap=l'.toNat:=by omega
   rcases g3 with g3|⟨b,hb,rfl,g4⟩
   .omega
   .refine .inr ⟨b,hb,by simp[hne,Addr.add_lit,jBp],?_⟩;rw[jBp,<-jB1,Nat.add_sub_cancel' (by omega)];exact g4
open Classical in
theorem oX(p:Prop):eD false p=.lit (.bool (decide p)):=by simp[eD]
open Classical in
theorem sM(p:Prop):eD true p=.lit (.bool (decide (¬p))):=by simp[eD]
theorem zDo(a b:ByteArray):(a.toList==b.toList)=@decide (a=b) (Classical.propDecidable _):=by
 by_cases hab:a=b
 .subst hab;simp
 .have hne:¬a.toList=b.toList:=fun e=>hab (by
   rw[ByteArray.toList_eq,ByteArray.toList_eq]at e;cases a;cases b;simp only at e
   congr
   exact jCm e)
  simp[hab,hne]
open Classical in
theorem zFD{k:SK}{x y:A}{p:Prop}(h:gI k x y=some p)(hk:zAh P t=some k)(d:Nat):∃u v,x=.lit u/\y=.lit v/\one u/\one v/\(Op.equalIn (d+1) t u v).run P w=.ok (decide p) w:=by
 unfold gI at h;unfold zAh at hk;split at h<;>try(cases h;done)
 .rename_i k a k' b;split at h<;>try(cases h;done)
  rename_i he;subst he;cases h;split at hk<;>try(cases hk;done)
  rename_i D hD;refine⟨_,_,rfl,rfl,rfl,rfl,?_⟩;rw[run_equalIn_int w d t k _ a b hD];by_cases hab:a=b<;>simp[hab]
 .rename_i a b;cases h;split at hk<;>try(cases hk;done)
  rename_i hD;refine⟨_,_,rfl,rfl,rfl,rfl,?_⟩;rw[run_equalIn_bool' w d t a b hD];cases a<;>cases b<;>simp
 .rename_i a b;cases h;split at hk<;>try(cases hk;done)
  rename_i hD;refine⟨_,_,rfl,rfl,rfl,rfl,?_⟩;rw[run_equalIn_string w d t a b hD,zDo]
open Classical in
theorem zNL{k:SK}{x y:A}{p:Prop}(h:gI k x y=some p)(hk:zAh P t=some k)(xo yo:Operand):∃u v,x=.lit u/\y=.lit v /\
 (do eqGuard .eql t xo yo u v;binOp .eql t u v:Sem Value).run P w=.ok (.bool (decide p)) w/\(do eqGuard .neq t xo yo u v;binOp .neq t u v:Sem Value).run P w=.ok (.bool (decide ¬p)) w:=by
 unfold gI at h;unfold zAh at hk;split at h<;>try(cases h;done)
 .rename_i k a k' b;split at h<;>try(cases h;done)
  rename_i he;subst he;cases h;refine⟨_,_,rfl,rfl,?_,?_⟩
  all_goals
   rw[Sem.run_bind,zCt,Result.andThen_ok];by_cases hab:a=b<;>simp[binOp,Op.intCmp,hab]
 .rename_i a b;cases h;split at hk<;>try(cases hk;done)
  rename_i hD;refine⟨_,_,rfl,rfl,?_,?_⟩
  all_goals
   simp[eqGuard,binOp,Op.equal,Op.maxDepth,run_equalIn_bool' w 9999 t a b hD];cases a<;>cases b<;>simp
 .rename_i a b;cases h;refine⟨_,_,rfl,rfl,?_,?_⟩
  .simp[eqGuard,binOp,Op.stringOp,zDo]
  .simp[eqGuard,binOp,Op.stringOp,zDo]
theorem sK{k:SK}(h:zAh P t=some k):(isAgg t).run P w=.ok false w:=by
 unfold zAh at h;split at h<;>try(cases h;done)
 all_goals (rename_i hD;rw[mT hD];rfl)
open Classical in
theorem tT(d:Nat):∀(ks:List SK) (fs:List Field) (o:Nat) (xs ys:wE) (p:Prop) (us vs us0 vs0:wK),pY P o fs=some ks->aP ks xs ys=some p ->
 z8 H L xs us->z8 H L ys vs->us0.length=o->vs0.length=o->(Op.eqFields (d+1) (us0++us).toArray (vs0++vs).toArray fs).run P w=.ok (decide p) w
 |ks,[],o,xs,ys,p,us,vs,us0,vs0,hf,he,hx,hy,h1,h2=>by
  simp only[pY,jA2]at hf;subst hf;unfold aP at he;split at he<;>try(cases he;done)
  .cases he;simp[Op.eqFields]
  .cases ‹([]:List SK)=_::_›
 |ks,f::fs,o,xs,ys,p,us,vs,us0,vs0,hf,he,hx,hy,h1,h2=>by
  simp only[pY]at hf;split at hf<;>try(cases hf;done)
  rename_i hof;obtain⟨hof,hnm⟩:=hof;split at hf<;>try(cases hf;done)
  rename_i k ks' hk hks;cases hf;cases xs with
  |nil=>simp[aP]at he
  |cons x xs' =>
  cases ys with
  |nil=>simp[aP]at he
  |cons y ys' =>
  simp only[aP]at he;split at he<;>try(cases he;done)
  rename_i p1 q1 hp1 hq1;cases he;obtain⟨u,us',rfl,hu,hus⟩:=qC hx;obtain⟨v,vs',rfl,hv,hvs⟩:=qC hy;obtain⟨u',v',rfl,rfl,_,_,hrun⟩:=zFD (w:=w) hp1 hk d;simp only[Rel]at hu hv;subst hu;subst hv;have hpu:(part f.type (us0++u::us').toArray f.offset).run P w=.ok u w:=by
   unfold part;rw[Sem.run_bind,sK hk,Result.andThen_ok];have:(us0++u::us')[f.offset]?=some u:=by rw[hof,<-h1];simp
   simp[this]
  have hpv:(part f.type (vs0++v::vs').toArray f.offset).run P w=.ok v w:=by
   unfold part;rw[Sem.run_bind,sK hk,Result.andThen_ok];have:(vs0++v::vs')[f.offset]?=some v:=by rw[hof,<-h2];simp
   simp[this]
  have ih:=tT d ks' fs (o+1) xs' ys' q1 us' vs' (us0++[u]) (vs0++[v]) hks hq1 hus hvs (by simp[h1]) (by simp[h2]);simp only[jAp,jCw]at ih;simp only[Op.eqFields,hnm,ne_eq,not_false_eq_true,if_true,Sem.run_bind,hpu,hpv,Result.andThen_ok,hrun];by_cases hp:p1
  .simp[hp,ih]
  .simp[hp]
variable{y:Operand}{ng:Bool}{t':TypeId}
open Classical in
theorem zFU{k:SK}(ho:o.op=.binOp (if ng then .neq else .eql) t x y t')(hk:zAh P t=some k)(he:qG H L N env a.tmps){p:Prop}
 (h:zR env U (.eqv o.dst ng k x y)=some (p,r)):bK P H L w a o r:=by
 have hx:=qQ he x;have hy:=qQ he y;simp only[zR,jAf,jBt]at h;obtain⟨q,hq,_,rfl⟩:=h;obtain⟨u,v,e1,e2,h1,h2⟩:=zNL (w:=w) hq hk x y;rw[e1]at hx;rw[e2]at hy;simp only[Rel]at hx hy;cases ng
 .refine⟨.bool (decide q),?_,by rw[oX];simp only[Rel]⟩;unfold execOp;simp only[jAi,if_false]at ho;simp only[ho];refine qR ?_;rw[hx,hy];exact h1
 .refine⟨.bool (decide ¬q),?_,by rw[sM];simp only[Rel]⟩;unfold execOp;simp only[if_true]at ho;simp only[ho];refine qR ?_;rw[hx,hy];exact h2
open Classical in
theorem zFT{ks:List SK}(ho:o.op=.binOp (if ng then .neq else .eql) t x y t')(hk:zGX P t=some ks)(he:qG H L N env a.tmps){p:Prop}
 (h:zR env U (.eqs o.dst ng ks x y)=some (p,r)):bK P H L w a o r:=by
 have hx:=qQ he x;have hy:=qQ he y;simp only[zR]at h;split at h<;>try(cases h;done)
 rename_i xs ys hxe hye;simp only[jAf,jBt]at h;obtain⟨q,hq,_,rfl⟩:=h;rw[hxe]at hx;rw[hye]at hy;simp only[Rel]at hx hy;obtain⟨us,hu,hu1,_⟩:=hx;obtain⟨vs,hv,hv1,_⟩:=hy;unfold zGX at hk;split at hk<;>try(cases hk;done)
 rename_i fs hfs;split at hk<;>try(cases hk;done)
 rename_i hb;simp only[jB4,not_or,jCn]at hb;have hfo:P.fieldsOf t=fs:=by simp[Program.fieldsOf,hfs]
 have hrun:=tT (P:=P) (w:=w) 9998 ks fs.toList 0 xs ys q us vs [] [] hk hq hu1 hv1 rfl rfl;simp only[jBm]at hrun;have hst:=run_equalIn_struct (P:=P) w 9999 t us.toArray vs.toArray (by rw[hfo];exact hfs) hb.1;rw[hfo,hrun]at hst;cases ng
 .refine⟨.bool (decide q),?_,by rw[oX];simp only[Rel]⟩;unfold execOp;simp only[jAi,if_false]at ho;simp only[ho];refine qR ?_;rw[hu,hv,Sem.run_bind,run_eqGuard_agg w _ t x y _ _ hb.2,Result.andThen_ok,run_eql_struct,hst];rfl
 .refine⟨.bool (decide ¬q),?_,by rw[sM];simp only[Rel]⟩;unfold execOp;simp only[if_true]at ho;simp only[ho];refine qR ?_;rw[hu,hv,Sem.run_bind,run_eqGuard_agg w _ t x y _ _ hb.2,Result.andThen_ok,run_neq_struct,hst];simp
theorem xA:∀{k1 k2:List SK} {xs ys:wE} {p:Prop},aP (k1++k2) xs ys=some p->∃xs1 xs2 ys1 ys2 p1 p2,xs=xs1++xs2/\ys=ys1++ys2/\xs1.length=k1.length/\ys1.length=k1.length/\aP k1 xs1 ys1=some p1/\aP k2 xs2 ys2=some p2/\(p↔p1/\p2)
 |[],k2,xs,ys,p,h=>⟨[],xs,[],ys,True,p,rfl,rfl,rfl,rfl,rfl,h,by simp⟩
 |k::k1,k2,xs,ys,p,h=>by
  cases xs with
  |nil=>simp[aP]at h
  |cons x xs =>
  cases ys with
  |nil=>simp[aP]at h
  |cons y ys =>
  simp only[jBa,aP]at h;split at h<;>try(cases h;done)
  rename_i a b ha hb;cases h;obtain⟨xs1,xs2,ys1,ys2,p1,p2,rfl,rfl,h1,h2,h3,h4,h5⟩:=xA hb;refine⟨x::xs1,xs2,y::ys1,ys2,a/\p1,p2,rfl,rfl,by simp[h1],by simp[h2],by simp[aP,ha,h3],h4,by rw[h5,and_assoc]⟩
open Classical in
theorem rN(d:Nat):∀(fs:List Field) (ks:List SK) (o:Nat) (xs ys:wE) (p:Prop) (us vs us0 vs0:wK),skN P o fs=some ks->aP ks xs ys=some p ->
 z8 H L xs us->z8 H L ys vs->us0.length=o->vs0.length=o->(Op.eqFields (d+2) (us0++us).toArray (vs0++vs).toArray fs).run P w=.ok (decide p) w
 |[],ks,o,xs,ys,p,us,vs,us0,vs0,hf,he,hx,hy,h1,h2=>by
  simp only[skN,jA2]at hf;subst hf;unfold aP at he;split at he<;>try(cases he;done)
  .cases he;simp[Op.eqFields]
  .cases ‹([]:List SK)=_::_›
 |f::fs,ks,o,xs,ys,p,us,vs,us0,vs0,hf,he,hx,hy,h1,h2=>by
  simp only[skN]at hf;split at hf<;>try(cases hf;done)
  rename_i hof;obtain⟨hof,hnm⟩:=hof;split at hf
  .rename_i k hk;simp only[jAf]at hf;obtain⟨ks',hks,rfl⟩:=hf;cases xs with
   |nil=>simp[aP]at he
   |cons x xs' =>
   cases ys with
   |nil=>simp[aP]at he
   |cons y ys' =>
   simp only[aP]at he;split at he<;>try(cases he;done)
   rename_i p1 q1 hp1 hq1;cases he;obtain⟨u,us',rfl,hu,hus⟩:=qC hx;obtain⟨v,vs',rfl,hv,hvs⟩:=qC hy;obtain⟨u',v',rfl,rfl,_,_,hrun⟩:=zFD (w:=w) hp1 hk (d+1);simp only[Rel]at hu hv;subst hu;subst hv;have hpu:(part f.type (us0++u::us').toArray f.offset).run P w=.ok u w:=by
    unfold part;rw[Sem.run_bind,sK hk,Result.andThen_ok];have:(us0++u::us')[f.offset]?=some u:=by rw[hof,<-h1];simp
    simp[this]
   have hpv:(part f.type (vs0++v::vs').toArray f.offset).run P w=.ok v w:=by
    unfold part;rw[Sem.run_bind,sK hk,Result.andThen_ok];have:(vs0++v::vs')[f.offset]?=some v:=by rw[hof,<-h2];simp
    simp[this]
   have ih:=rN d fs ks' (o+1) xs' ys' q1 us' vs' (us0++[u]) (vs0++[v]) hks hq1 hus hvs (by simp[h1]) (by simp[h2]);simp only[jAp,jCw]at ih;simp only[Op.eqFields,hnm,ne_eq,not_false_eq_true,if_true,Sem.run_bind,hpu,hpv,Result.andThen_ok,hrun];by_cases hp:p1
   .simp[hp,ih]
   .simp[hp]
  .split at hf<;>try(cases hf;done)
   rename_i gs hgs;split at hf<;>try(cases hf;done)
   rename_i hst;split at hf<;>try(cases hf;done)
   rename_i k1 j hk1 hj;split at hf<;>try(cases hf;done)
   rename_i hsz;simp only[jAf]at hf;obtain⟨k2,hk2,rfl⟩:=hf;obtain⟨xs1,xs2,ys1,ys2,p1,p2,rfl,rfl,g1,g2,g3,g4,g5⟩:=xA he;obtain⟨us1,us2,rfl,hu1,hu2⟩:=hx.split;obtain⟨vs1,vs2,rfl,hv1,hv2⟩:=hy.split;have l1:us1.length=k1.length:=by rw[hu1.length,g1]
   have l2:vs1.length=k1.length:=by rw[hv1.length,g2]
   have hag:(isAgg f.type).run P w=.ok true w:=by rw[mT hgs];rfl
   have hpart:∀(z0 z1 z2:wK),z0.length=o->z1.length=k1.length->(part f.type (z0++(z1++z2)).toArray f.offset).run P w=.ok (.agg z1.toArray) w:=by
    intro z0 z1 z2 e0 e1;unfold part;rw[Sem.run_bind,hag,Result.andThen_ok];simp only[if_true,Sem.run_bind,yM hj,Result.andThen_ok,hof,hsz];have:(z0++(z1++z2)).toArray.extract o (o+k1.length)=z1.toArray:=by apply jCm;simp[<-e0,<-e1]
    rw[this];rfl
   have hfo:P.fieldsOf f.type=gs:=by simp[Program.fieldsOf,hgs]
   have hin:=tT (P:=P) (w:=w) d k1 gs.toList 0 xs1 ys1 p1 us1 vs1 [] [] hk1 g3 hu1 hv1 rfl rfl;simp only[jBm]at hin;have hst2:=run_equalIn_struct (P:=P) w (d+1) f.type us1.toArray vs1.toArray (by rw[hfo];exact hgs) (by simpa using hst);rw[hfo,hin]at hst2;have ih:=rN d fs k2 (o+k1.length) xs2 ys2 p2 us2 vs2 (us0++us1) (vs0++vs1) hk2 g4 hu2 hv2 (by simp[h1,l1]) (by simp[h2,l2]);simp only[jAp]at ih;simp only[Op.eqFields,hnm,ne_eq,not_false_eq_true,if_true,Sem.run_bind,hpart us0 us1 us2 h1 l1,hpart vs0 vs1 vs2 h2 l2,Result.andThen_ok,hst2];by_cases hp:p1
   .simp[hp,ih,g5]
   .simp[hp,g5]
open Classical in
theorem zFS{ks:List SK}(ho:o.op=.binOp (if ng then .neq else .eql) t x y t')(hk:zHp P t=some ks)(he:qG H L N env a.tmps){p:Prop}
 (h:zR env U (.eqs o.dst ng ks x y)=some (p,r)):bK P H L w a o r:=by
 have hx:=qQ he x;have hy:=qQ he y;simp only[zR]at h;split at h<;>try(cases h;done)
 rename_i xs ys hxe hye;simp only[jAf,jBt]at h;obtain⟨q,hq,_,rfl⟩:=h;rw[hxe]at hx;rw[hye]at hy;simp only[Rel]at hx hy;obtain⟨us,hu,hu1,_⟩:=hx;obtain⟨vs,hv,hv1,_⟩:=hy;unfold zHp at hk;split at hk<;>try(cases hk;done)
 rename_i fs hfs;split at hk<;>try(cases hk;done)
 rename_i hb;simp only[jB4,not_or,jCn]at hb;have hfo:P.fieldsOf t=fs:=by simp[Program.fieldsOf,hfs]
 have hrun:=rN (P:=P) (w:=w) 9997 fs.toList ks 0 xs ys q us vs [] [] hk hq hu1 hv1 rfl rfl;simp only[jBm]at hrun;have hst:=run_equalIn_struct (P:=P) w 9999 t us.toArray vs.toArray (by rw[hfo];exact hfs) hb.1;rw[hfo,hrun]at hst;cases ng
 .refine⟨.bool (decide q),?_,by rw[oX];simp only[Rel]⟩;unfold execOp;simp only[jAi,if_false]at ho;simp only[ho];refine qR ?_;rw[hu,hv,Sem.run_bind,run_eqGuard_agg w _ t x y _ _ hb.2,Result.andThen_ok,run_eql_struct,hst];rfl
 .refine⟨.bool (decide ¬q),?_,by rw[sM];simp only[Rel]⟩;unfold execOp;simp only[if_true]at ho;simp only[ho];refine qR ?_;rw[hu,hv,Sem.run_bind,run_eqGuard_agg w _ t x y _ _ hb.2,Result.andThen_ok,run_neq_struct,hst];simp
theorem zFW(ho:o.op=.binOp (if ng then .neq else .eql) t x y t')(hn:zNe P t y=true)(he:qG H L N env a.tmps){p:Prop}
 (h:zR env U (.isp o.dst ng x)=some (p,r)):bK P H L w a o r:=by
 have hx:=qQ he x;unfold zNe at hn;split at hn<;>try(cases hn;done)
 rename_i e hu;have fin:∀(ad:Option Addr),a.eval x=.pointer ad->r=.lit (.bool (ad.isNone != ng))->bK P H L w a o r:=by
  rintro ad hv rfl;have key:(Op.equal t (.pointer ad) (.pointer none)).run P w=.ok ad.isNone w:=by
   unfold Op.equal Op.maxDepth;unfold Op.equalIn;cases ad with
   |none=>simp[run_underlying hu]
   |some ad=>simp[run_underlying hu]
  refine⟨.bool (ad.isNone != ng),?_,by simp only[Rel]⟩;unfold execOp;cases ng
  .simp only[jAi,if_false]at ho;simp only[ho,hv];refine qR ?_;simp[Act.eval,eqGuard,binOp,key]
  .simp only[if_true]at ho;simp only[ho,hv];refine qR ?_;simp[Act.eval,eqGuard,binOp,key]
 simp only[zR]at h;split at h<;>try(cases h;done)
 .rename_i hxe;cases h;rw[hxe]at hx;simp only[Rel]at hx;exact fin none hx (by cases ng<;>rfl)
 .rename_i hxe;cases h;rw[hxe]at hx;simp only[Rel]at hx;obtain⟨b,o',us,hx,_⟩:=hx;exact fin (some ⟨b,o',none⟩) hx (by cases ng<;>rfl)
 .rename_i hxe;cases h;rw[hxe]at hx;simp only[Rel]at hx;obtain⟨li,b,_,_,_,hx⟩:=hx;exact fin _ hx (by cases ng<;>rfl)
theorem zFV(ho:o.op=.binOp (if ng then .neq else .eql) t x y t')(hn:zEh P t y=true)(he:qG H L N env a.tmps){p:Prop}
 (h:zR env U (.isn o.dst ng x)=some (p,r))(hp:p):bK P H L w a o r:=by
 have hx:=qQ he x;unfold zEh at hn;split at hn<;>try(cases hn;done)
 rename_i e hu;have fin:∀(b:Bool),(∃(ad:Option Addr) (n c:Nat),a.eval x=.slice ad n c/\ad.isNone=b)->r=.lit (.bool (b != ng))->bK P H L w a o r:=by
  rintro b ⟨ad,n,c,hv,hb⟩ rfl;have key:(Op.equal t (.slice ad n c) (.slice none 0 0)).run P w=.ok b w:=by
   subst hb;unfold Op.equal Op.maxDepth;unfold Op.equalIn;cases ad with
   |none=>simp[run_underlying hu]
   |some ad=>simp[run_underlying hu]
  refine⟨.bool (b != ng),?_,by simp only[Rel]⟩;unfold execOp;cases ng
  .simp only[jAi,if_false]at ho;simp only[ho,hv];refine qR ?_;simp[Act.eval,eqGuard,binOp,key]
  .simp only[if_true]at ho;simp only[ho,hv];refine qR ?_;simp[Act.eval,eqGuard,binOp,key]
 simp only[zR]at h;split at h<;>try(cases h;done)
 .rename_i hxe;cases h;rw[hxe]at hx;simp only[Rel]at hx;exact fin true ⟨_,_,_,hx,rfl⟩ (by cases ng<;>rfl)
 .rename_i n cs hxe;cases h;rw[hxe]at hx;simp only[Rel]at hx;obtain⟨ad,cap,hv,_,_,h3⟩:=hx;rcases h3 with ⟨h3,_⟩|⟨b,off,us,rfl,_⟩
  .exact(hp h3).elim
  .exact fin false ⟨_,_,_,hv,rfl⟩ (by cases ng<;>rfl)
 .rename_i n cs hxe;cases h;rw[hxe]at hx;simp only[Rel]at hx;obtain⟨ad,hv,_,h3⟩:=hx;rcases h3 with ⟨h3,_⟩|⟨b,off,us,rfl,_⟩
  .exact(hp h3).elim
  .exact fin false ⟨_,_,_,hv,rfl⟩ (by cases ng<;>rfl)
theorem zFX(ho:o.op=.binOp (if ng then .neq else .eql) t x y t')(hn:zEh P t y=true){ad:Option Addr}{n cap:Nat}(hv:a.eval x=.slice ad n cap) :
 bK P H L w a o (.lit (.bool (ad.isNone != ng))):=by
 unfold zEh at hn;split at hn<;>try(cases hn;done)
 rename_i e hu;have key:(Op.equal t (.slice ad n cap) (.slice none 0 0)).run P w=.ok ad.isNone w:=by
  unfold Op.equal Op.maxDepth;unfold Op.equalIn;cases ad with
  |none=>simp[run_underlying hu]
  |some ad=>simp[run_underlying hu]
 refine⟨.bool (ad.isNone != ng),?_,by simp only[Rel]⟩;unfold execOp;cases ng
 .simp only[jAi,if_false]at ho;simp only[ho,hv];refine qR ?_;simp[Act.eval,eqGuard,binOp,key]
 .simp only[if_true]at ho;simp only[ho,hv];refine qR ?_;simp[Act.eval,eqGuard,binOp,key]
theorem zT3(hs:RelSt H L U w){x:A}{v:Value}(hx:Rel H L x v):(x=.nil->v=.slice none 0 0)/\(∀n cs,x=.sl n cs->∃ad cap,v=.slice ad n cap/\(n≠0->ad.isNone=false)) /\
 ∀l n fz e sz cs,x=.row l n->U[l]?=some (.row fz e sz n cs)->∃ad cap,v=.slice ad n cap/\(n≠0->ad.isNone=false):=by
 refine⟨fun e=>by subst e;simpa only[Rel]using hx,fun n cs e=>?_,fun l n fz e sz cs he hU=>?_⟩
 .subst e;simp only[Rel]at hx;obtain⟨ad,cap,hv,_,_,h3⟩:=hx;refine⟨ad,cap,hv,fun h0=>?_⟩;rcases h3 with ⟨h3,_⟩|⟨b,off,us,rfl,_⟩
  .exact(h0 h3).elim
  .rfl
 .subst he;simp only[Rel]at hx;obtain⟨_,li,e1,e2,e3,hv⟩:=hx;have hob:=hs.obj l li _ e1 hU;simp only[zV]at hob;have hv:=hv (by rw[hob.2.1]);cases hb:li.block with
  |none =>
   rw[hb]at hv;rcases hob.2.2.2 with ⟨_,h0⟩|⟨b,cur,hb',_⟩
   .subst h0;exact⟨_,_,hv,fun h=>(h rfl).elim⟩
   .rw[hb]at hb';cases hb'
  |some b=>rw[hb]at hv;exact⟨_,_,hv,fun _=>rfl⟩
end
end Go.Abs
namespace Go.Abs
section
variable{P:Program}{H:Mem}{L:wL} {U:St}{w:World}{N:Nat}{env:Env}{a:Act}
theorem zIC(off:Nat):∀(vs:wK) (k:Nat) (cs:Array Value),off+k+vs.length<=cs.size ->
 ((vs.zipIdx k).foldl (fun cs (p:Value×Nat)=>cs.setIfInBounds (off+p.2) p.1) cs).toList=cs.toList.take (off+k)++vs++cs.toList.drop (off+k+vs.length)
 |[],k,cs,_=>by simp
 |v::vs,k,cs,h=>by
  simp only[jAb]at h;have ih:=zIC off vs (k+1) (cs.setIfInBounds (off+k) v) (by simpa using by omega);rw[List.zipIdx_cons,jBk,ih];simp only[jDo,jAb];have hk:off+k<cs.toList.length:=by simpa using by omega
  rw[show off+(k+1)=off+k+1 from by omega,jA8 (by simpa using hk),List.take_set_of_le (jA _),jDu,
   List.drop_set_of_lt (by omega)]
  simp only[jAp,jCw];rw[show off+k+1+vs.length=off+k+(vs.length+1) from by omega]
theorem zAD(he:qG H L N env a.tmps)(place:Nat->Option (Nat×Nat)):∀(parts:List (Nat×Operand)) (ps:List (Nat×Nat×Operand)) (zs:wE) (arr:Array Value) (cs:wE),
 mI place parts=some ps->eT zs (ps.map fun(o,s,x)=>(o,s,ev env x))=some cs->z8 H L zs arr.toList->(∀u∈arr.toList,one u) ->
 ∃arr':Array Value,Instr.fill place arr (parts.map fun(i,x)=>(i,a.eval x))=some arr'/\z8 H L cs arr'.toList/\∀u∈arr'.toList,one u
 |[],ps,zs,arr,cs,hp,hf,hz,h1=>by simp only[mI,List.mapM_nil,jDj,jA2]at hp;subst hp;simp only[jBq,eT,jA2]at hf;subst hf;exact⟨arr,rfl,hz,h1⟩
 |(i,x)::parts,ps,zs,arr,cs,hp,hf,hz,h1=>by
  simp only[mI,jD6,jDj,jAh,jA7,jAf,jA2]at hp;obtain⟨q,⟨⟨off,size⟩,hpl,rfl⟩,ps',hps,rfl⟩:=hp;simp only[jAg,eT]at hf;split at hf<;>try(cases hf;done)
  rename_i l hl;split at hf<;>try(cases hf;done)
  rename_i hc;obtain⟨hc1,hc2⟩:=hc;obtain⟨g1,g2⟩:=uP (qQ he x) hl;have hlen:=g1.length;have hzl:=hz.length;have hls:(a.eval x).cells.size=size:=by rw[<-jB2,hlen,hc1]
  have hsz:off+(a.eval x).cells.size<=arr.size:=by rw[hls,<-jB2,hzl];exact hc2
  have hfold:(((a.eval x).cells.zipIdx.foldl (fun cs (p:Value×Nat)=>cs.setIfInBounds (off+p.2) p.1) arr)).toList=arr.toList.take off++(a.eval x).cells.toList++arr.toList.drop (off+size):=by have:=zIC off (a.eval x).cells.toList 0 arr (by simpa using hsz);simp only[jC6,jB2,hls]at this;rw[<-this,<-Array.foldl_toList,Array.toList_zipIdx]
  obtain⟨arr',k1,k2,k3⟩:=zAD he place parts ps' _ ((a.eval x).cells.zipIdx.foldl (fun cs (p:Value×Nat)=>cs.setIfInBounds (off+p.2) p.1) arr) cs hps hf
   (by rw[hfold];exact((hz.take off).append g1).append (hz.drop _))
   (by
    rw[hfold];intro u hu;simp only[jAa]at hu;rcases hu with (hu|hu)|hu
    .exact h1 u (jCd hu)
    .exact g2 u hu
    .exact h1 u (jC7 hu))
  refine⟨arr',?_,k2,k3⟩;simp only[jAg,Instr.fill,hpl];rw[if_neg (by simp only[jB4,decide_eq_true_eq,not_or,Decidable.not_not,hls,true_and,Nat.not_lt,ne_eq];rw[hls]at hsz;exact hsz)];exact k1
theorem zJo{fs:Array Field}{P:Program}(hall:fs.all (fun f=>(P.info? f.type).isSome)=true) :
 ∃ps:Array (Nat×Nat),(fs.mapM fun f=>(do pure (f.offset,<-sizeOf f.type):Sem (Nat×Nat))).run P w=.ok ps w/\∀i:Nat,ps[i]?=oE P fs.toList i:=by
 obtain⟨l⟩:=fs;have hall':∀f∈l,(P.info? f.type).isSome:=by simpa using hall
 have key:∀(l:List Field),(∀f∈l,(P.info? f.type).isSome)->∃ps:wD,(l.mapM fun f=>(do pure (f.offset,<-sizeOf f.type):Sem (Nat×Nat))).run P w=.ok ps w /\
  ∀i:Nat,ps[i]?=oE P l i:=by
  intro l;induction l with
  |nil=>intro _;exact⟨[],by simp,by simp[oE]⟩
  |cons f l ih =>
   intro h;obtain⟨ps,h1,h2⟩:=ih (fun g hg=>h g (jAo _ hg));obtain⟨j,hj⟩:=Option.isSome_iff_exists.1 (h f (jAs ..));refine⟨(f.offset,j.size)::ps,?_,?_⟩
   .rw[jD6];simp only[Sem.run_bind,yM hj,Result.andThen_ok,Sem.run_pure,h1]
   .intro i;cases i with
    |zero=>simp[oE,hj]
    |succ i=>simpa[oE]using h2 i
 obtain⟨ps,h1,h2⟩:=key l hall';refine⟨ps.toArray,?_,fun i=>by simpa using h2 i⟩;rw[List.mapM_toArray];simp only[Sem.run_map,h1,Result.andThen_ok]
theorem zC1{o:Oper}{t:TypeId}{parts:Array (Nat×Operand)}{i:TypeInfo}{z:Value}{place:Nat->Option (Nat×Nat)}{ps:List (Nat×Nat×Operand)}(ho:o.op=.build t parts)
 (hi:P.info? t=some i)(hz:i.zero=some z)(hok:aY z.cells.toList=true)(hps:mI place parts.toList=some ps)
 (hpl:(∃fs,P.underlying t=some (.struct fs)/\fs.all (fun f=>(P.info? f.type).isSome)=true/\place=oE P fs.toList) \/
  (∃n e j,P.underlying t=some (.array n e)/\P.info? e=some j/\place=fun i=>some (i*j.size,j.size)))
 (he:qG H L N env a.tmps){r:A}{p:Prop}(h:zR env U (.build o.dst z.cells.toList ps)=some (p,r)):bK P H L w a o r:=by
 simp only[zR,jAf,jBt]at h;obtain⟨cs,hcs,_,rfl⟩:=h;have hone:∀u∈z.cells.toList,one u:=fun u hu=>jB6.1 hok u hu
 obtain⟨arr,h1,h2,h3⟩:=zAD he place parts.toList ps _ z.cells cs hps hcs (cQ _) hone;refine⟨.agg arr,?_,by simp only[Rel];exact⟨arr.toList,by simp,h2,h3⟩⟩;unfold execOp;simp only[ho];refine qR ?_;have hmap:(parts.map fun(i,x)=>(i,a.eval x)).toList=parts.toList.map fun(i,x)=>(i,a.eval x):=by simp
 unfold Instr.build;have hzr:(zeroValue t).run P w=.ok z w:=by simp[zeroValue,typeInfo,hi,hz]
 rcases hpl with ⟨fs,hu,hall,rfl⟩|⟨n,e,j,hu,hj,rfl⟩
 .obtain⟨pls,hm1,hm2⟩:=zJo (w:=w) hall;have hfn:(fun i:Nat=>pls[i]?)=oE P fs.toList:=funext hm2;simp only[Sem.run_bind,hzr,Result.andThen_ok,run_underlying hu,hm1,hmap];rw[hfn,h1];rfl
 .simp only[Sem.run_bind,hzr,Result.andThen_ok,run_underlying hu,yM hj,hmap];rw[h1];rfl
end
end Go.Abs
namespace Go.Abs
section
variable{P:Program}{H:Mem}{L:wL} {U:St}{w:World}{N:Nat}{env:Env}{a:Act}
theorem zL3{o:Oper}{k:KOp}{p:Prop}{r:A}(hc:y5 P o=some k)(h:zR env U k=some (p,r))(hp:p)(he:qG H L N env a.tmps)(hs:RelSt H L U w) :
 bK P H L w a o r:=by
 unfold y5 at hc;split at hc
 case h_1 x heq=>cases hc;cases h;exact zFY (.inl heq) he
 case h_2 x heq=>cases hc;cases h;exact zFY (.inr heq) he
 case h_3 c x y heq =>
  cases hc;simp only[zR]at h;split at h<;>try(cases h;done)
  rename_i t hce;cases h;exact zLa heq he hce
 case h_4 e heq =>
  simp only[jAh,jA7]at hc;obtain⟨i,_,z,_,hc⟩:=hc;split at hc
  .cases hc;simp[zR]at h
  .cases hc
 case h_5 e x heq=>cases hc;simp[zR]at h
 case h_6 t x heq =>
  simp only[jAh,jA7,jA2]at hc;obtain⟨u,hu,i,hi,rfl⟩:=hc;simp only[zR,jAf,jBt]at h;obtain⟨r',hr,_,rfl⟩:=h;exact zQQ heq hu hi he hs hr
 case h_7 t x y heq =>
  simp only[jAh,jA7,jA2]at hc;obtain⟨i,hi,rfl⟩:=hc;simp[zR]at h
 case h_8 s x f heq =>
  split at hc<;>try(cases hc;done)
  rename_i fs hfs;simp only[jAh,jA7]at hc;obtain⟨g,hg,i,hi,hc⟩:=hc;split at hc<;>try(cases hc;done)
  rename_i h0;cases hc;exact zKX heq hfs hg hi h0 he hs h
 case h_9 t x i heq =>
  split at hc<;>try(cases hc;done)
  .rename_i e hu;simp only[jAh,jA7,jA2]at hc;obtain⟨ti,hi,rfl⟩:=hc;exact zOb heq hu hi he hs h hp
  .rename_i n e hu;simp only[jAh,jA7,jA2]at hc;obtain⟨ti,hi,rfl⟩:=hc;exact zHc heq hu hi he h hp
 case h_10 t x f heq =>
  split at hc<;>try(cases hc;done)
  rename_i fs hfs;simp only[jAh,jA7,jA2]at hc;obtain⟨g,hg,u,hu,i,hi,rfl⟩:=hc;exact zOa heq hfs hg hu hi he h
 case h_11 t x i heq =>
  split at hc<;>try(cases hc;done)
  rename_i n e hut;simp only[jAh,jA7,jA2]at hc;obtain⟨u,hu,j,hj,rfl⟩:=hc;exact zQP heq hut hu hj he h hp
 case h_12 op t x y t' heq =>
  split at hc<;>try(cases hc;done)
  all_goals try(cases hc;exact zNX heq he h hp)
  .split at hc
   .rename_i k hk;cases hc;exact zFU (ng:=false) heq hk he h
   .split at hc
    .rename_i hn;cases hc;exact zFV (ng:=false) heq hn he h hp
    .rcases zA7 hc with ⟨hn,rfl⟩|⟨ks,hk,rfl⟩
     .exact zFW (ng:=false) heq hn he h
     .rcases hk with hk|hk
      .exact zFT (ng:=false) heq hk he h
      .exact zFS (ng:=false) heq hk he h
  .split at hc
   .rename_i k hk;cases hc;exact zFU (ng:=true) heq hk he h
   .split at hc
    .rename_i hn;cases hc;exact zFV (ng:=true) heq hn he h hp
    .rcases zA7 hc with ⟨hn,rfl⟩|⟨ks,hk,rfl⟩
     .exact zFW (ng:=true) heq hn he h
     .rcases hk with hk|hk
      .exact zFT (ng:=true) heq hk he h
      .exact zFS (ng:=true) heq hk he h
 case h_13 op t x heq =>
  split at hc<;>try(cases hc;done)
  .cases hc;exact zOe heq he h
  .cases hc;exact zOf heq he h
 case h_14 t i heq=>cases hc;exact zNZ heq he h
 case h_15 f first cap heq=>cases hc;cases h;exact zNY heq he
 case h_16 t x lo hi mx heq =>
  split at hc<;>try(cases hc;done)
  rename_i e hu;simp only[jAh,jA7,jA2]at hc;obtain⟨i,hi,rfl⟩:=hc;exact zOg heq hu hi he h hp
 case h_17 t parts heq =>
  split at hc<;>try(cases hc;done)
  .rename_i fs hu;simp only[jAh,jA7]at hc;obtain⟨i,hi,z,hz,hc⟩:=hc;split at hc<;>try(cases hc;done)
   rename_i hb;simp only[jA6]at hb;simp only[jA7,jA2]at hc;obtain⟨ps,hps,rfl⟩:=hc;exact zC1 heq hi hz hb.1 hps (.inl ⟨fs,hu,hb.2,rfl⟩) he h
  .rename_i n e hu;simp only[jAh,jA7]at hc;obtain⟨i,hi,z,hz,j,hj,hc⟩:=hc;split at hc<;>try(cases hc;done)
   rename_i hb;simp only[jA7,jA2]at hc;obtain⟨ps,hps,rfl⟩:=hc;exact zC1 heq hi hz hb hps (.inr ⟨n,e,j,hu,hj,rfl⟩) he h
 case h_18 t len parts heq =>
  split at hc<;>try(cases hc;done)
  simp only[jAh,jA7]at hc;obtain⟨j,hj,z,hz,hc⟩:=hc;split at hc<;>try(cases hc;done)
  simp only[jA7,jA2]at hc;obtain⟨ps,hps,rfl⟩:=hc;simp[zR]at h
 case h_19 c heq =>
  split at hc
  .split at hc
   .split at hc
    .cases hc;simp[zR]at h
    .cases hc
   .cases hc;simp[zR]at h
   .cases hc
  .rename_i hcal;split at hc<;>try(cases hc;done)
   rename_i x t ha ht;split at hc<;>try(cases hc;done)
   .rename_i e hu;cases hc;exact zOc heq hcal ha ht hu he hs h
   .rename_i hu;cases hc;exact zKY heq hcal ha ht hu he h
  .split at hc<;>try(cases hc;done)
   simp only[jAf]at hc;obtain⟨nk,_,rfl⟩:=hc;simp[zR]at h
  .split at hc<;>try(cases hc;done)
   split at hc<;>try(cases hc;done)
   simp only[jAh,jA7]at hc;obtain⟨j,hj,z,hz,hc⟩:=hc;split at hc<;>try(cases hc;done)
   cases hc;simp[zR]at h
  .rename_i hcal;cases hc;exact zIP (mx:=true) heq hcal he h
  .rename_i hcal;cases hc;exact zIP (mx:=false) heq hcal he h
  .split at hc<;>try(cases hc;done)
   split at hc<;>try(cases hc;done)
   split at hc<;>try(cases hc;done)
   simp only[jAh,jA7]at hc;obtain⟨j,hj,z,hz,hc⟩:=hc;split at hc<;>try(cases hc;done)
   cases hc;simp[zR]at h
  .cases hc
 case h_20 x heq=>cases hc;exact zKZ heq he h
 case h_21 t heq =>
  simp only[jAf]at hc;obtain⟨nk,_,rfl⟩:=hc;simp[zR]at h
 case h_22 t x k ok heq =>
  split at hc<;>try(cases hc;done)
  simp only[jAh,jA7,jA2]at hc;obtain⟨nk,_,j,_,z,_,rfl⟩:=hc;simp[zR]at h
 case h_23 t m k v heq =>
  simp only[jAf]at hc;obtain⟨nk,_,rfl⟩:=hc;simp[zR]at h
 case h_24 t x heq =>
  split at hc<;>try(cases hc;done)
  cases hc;simp[zR]at h
 case h_25 x heq=>cases hc;simp[zR]at h
 case h_26 x heq=>cases hc;simp[zR]at h
 case h_27 t x heq =>
  split at hc<;>try(cases hc;done)
  rename_i u hu;split at hc<;>try(cases hc;done)
  rename_i hn;cases hc;exact zOd heq hu hn he h
 case h_28=>cases hc;simp[zR]at h
 case h_29 t x y heq =>
  split at hc<;>try(cases hc;done)
  simp only[jAh,jA7]at hc;obtain⟨j,hj,z,hz,hc⟩:=hc;split at hc<;>try(cases hc;done)
  cases hc;simp[zR]at h
 case h_30 s d x heq =>
  split at hc<;>try(cases hc;done)
  .split at hc<;>try(cases hc;done)
   cases hc;simp[zR]at h
  .split at hc<;>try(cases hc;done)
   split at hc<;>try(cases hc;done)
   cases hc;simp[zR]at h
 case h_31 t m k v heq =>
  simp only[jAf]at hc;obtain⟨nk,_,rfl⟩:=hc;simp[zR]at h
 case h_32=>cases hc
structure Nxt(H:Mem)(L:List LI)(w:World)(H':Mem)(L':List LI) (U':St)(w':World):Prop where
 st:RelSt H' L' U' w'
 step:Step (zJ5 L) w H w' H'
 lle:LLe L L'
 own:∀b,zJ5 L' b->zJ5 L b\/w.heap.size<=b
theorem Nxt.refl(hs:RelSt H L U w):Nxt H L w H L U w:=⟨hs,Step.refl _ _ _,LLe.refl _,fun _ h=>.inl h⟩
variable{H':Mem}{L':wL}{w':World}
theorem Nxt.trans{H'':Mem}{L'':wL} {U' U'':St}{w'':World}(h:Nxt H L w H' L' U' w')(k:Nxt H' L' w' H'' L'' U'' w''):Nxt H L w H'' L'' U'' w'' :=
 ⟨k.st,h.step.trans k.step h.own,h.lle.trans k.lle,fun b hb=>(k.own b hb).elim (h.own b) fun hb=>.inr (jBu h.step.size hb)⟩
theorem Inv.next{O:Nat->Prop}{w0:World}{H0:Mem} {U':St}(h:Inv O w0 H0 H L U w)(k:Nxt H L w H' L' U' w'):Inv O w0 H0 H' L' U' w' :=
 ⟨k.st,h.step.trans k.step h.own,fun b hb=>(k.own b hb).elim (h.own b) fun hb=>.inr (jBu h.step.size hb)⟩
theorem zV.carry{li:LI}{o:AObj}(h:zV H L w li o)(hw:∀b,li.block=some b->w'.heap[b]?=w.heap[b]?)(hh:HLe H H')(hl:LLe L L')
 (hb:∀b,li.block=some b->∀o,H' b o=H b o):zV H' L' w' li o:=by
 cases o with
 |dead=>trivial
 |box cs =>
  simp only[zV]at h⊢;obtain⟨h0,b,vs,e,h1,h2,h3,h4,h5⟩:=h;exact⟨h0,b,vs,e,h1,by rw[hw b h1];exact h2,z8.mono hh hl _ h3,h4,fun o=>by rw[hb b h1];exact h5 o⟩
 |row fz e sz n cs =>
  simp only[zV]at h⊢;obtain⟨h0,h1,h2,h3⟩:=h;refine⟨h0,h1,h2,?_⟩;rcases h3 with h3|⟨b,cur,g1,g2,g3,g4,g5,g6,g7,g8⟩
  .exact .inl h3
  .refine .inr ⟨b,cur,g1,by rw[hw b g1];exact g2,g3,g4,g5,z8.mono hh hl _ g6,g7,?_⟩;cases fz with
   |false=>exact fun o=>by rw[hb b g1];exact g8 o
   |true=>exact⟨g8.1.mono hh,fun o ho=>by rw[hb b g1];exact g8.2 o ho⟩
 |lp b r M es =>
  simp only[zV]at h⊢;obtain⟨h0,h1,tmps,h2,h3,h4⟩:=h;exact⟨h0,h1,tmps,by rw[hw b h1];exact h2,h3,h4.mono hh hl⟩
 |mp fresh nk es =>
  simp only[zV]at h⊢;obtain⟨h0,b,ents,ck,h1,h2,h3,h4⟩:=h;exact⟨h0,b,ents,ck,h1,by rw[hw b h1];exact h2,h3.mono hh hl,h4⟩
 |it m n met =>
  simp only[zV]at h⊢;obtain⟨h0,b,mb,lm,h1,h2,h3,h4,h5⟩:=h;obtain⟨lm',e',hlm⟩:=hl _ _ h2;rcases hlm with rfl|⟨hr,_⟩|⟨hr,_⟩
  .exact⟨h0,b,mb,_,h1,e',h3,h4,by rw[hw b h1];exact h5⟩
  .rw[h4]at hr;cases hr
  .rw[h3]at hr;cases hr
 |rsv=>exact h
theorem zQi{w:World}{b:Nat}(hkeep:∀k,k≠b->w'.heap[k]?=w.heap[k]?)(hb:∀d,w.heap[b]?≠some (.deferred d))(k:Nat)(d:Option (List Deferred))(h:w.heap[k]?=some (.deferred d)):w'.heap[k]?=some (.deferred d):=by
 by_cases hk:k=b
 .subst hk;exact(hb d h).elim
 .rw[hkeep k hk];exact h
theorem nZ{w:World}(hkeep:∀k,k<w.heap.size->w'.heap[k]?=w.heap[k]?)(k:Nat)(d:Option (List Deferred))(h:w.heap[k]?=some (.deferred d)):w'.heap[k]?=some (.deferred d):=by rw[hkeep k (jD5.1 h).1];exact h
theorem RelSt.heap_eq(h:RelSt H L U w)(hw:w'.heap=w.heap):RelSt H L U w':=by
 have hc:∀a,w'.cell? a=w.cell? a:=fun a=>by simp[World.cell?,hw]
 exact⟨fun b o v hv=>by rw[hc];exact h.pers b o v hv,h.len,fun i l o h1 h2=>(h.obj i l o h1 h2).carry (fun b _=>by rw[hw]) (HLe.refl _) (LLe.refl _) (fun _ _ _=>rfl),h.inj,
  fun i l b h1 h2=>by rw[hw];exact h.lt i l b h1 h2⟩
theorem RelSt.h_lt(h:RelSt H L U w){b o:Nat}{v:Value}(hv:H b o=some v):b<w.heap.size:=World.block_lt_of_cell? w _ (h.pers b o v hv)
def zFk(H:Mem)(B:Nat)(us:wK):Mem:=⟨fun b o=>match H b o with
 |some v=>some v
 |none=>if b=B then us[o]? else none,fun b o v h=>by simp only[H.2 b o v h]⟩
theorem rZ{H:Mem}{B:Nat}{us:wK}(h:∀o v,H B o=some v->us[o]?=some v)(b o:Nat):zFk H B us b o=if b=B then us[o]? else H b o:=by
 simp only[zFk];cases hh:H b o with
 |some v =>
  simp only;split
  .rename_i e;subst e;rw[h o v hh]
  .rfl
 |none=>rfl
theorem RelSt.fresh(hs:RelSt H L U w)(us:wK):∀o v,H w.heap.size o=some v->us[o]?=some v:=fun o v hv=>by have:=hs.h_lt hv;omega
theorem zC6(hs:RelSt H L U w)(us:wK)(e:TypeId):Nxt H L w (zFk H w.heap.size us) L U (w.alloc (.cells us.toArray e))/\At (zFk H w.heap.size us) w.heap.size 0 us:=by
 have hA:=rZ (hs.fresh us);have hle:HLe H (zFk H w.heap.size us):=fun b o v hv=>by have:=hs.h_lt hv;simp only[hA];rw[if_neg (by omega)];exact hv
 refine⟨⟨⟨fun b o v hv=>?_,hs.len,fun i l o h1 h2=>?_,hs.inj,fun i l b h1 h2=>?_⟩,⟨rfl,rfl,rfl,by simp,fun k hk _=>heap_alloc_old w _ (h:=hk),hle,fun b o v hv=>?_,jA _,nZ (heap_alloc_old w _)⟩,LLe.refl _,fun b hb=>.inl hb⟩,?_⟩
 .simp only[hA]at hv;split at hv
  .rename_i hb;subst hb;rw[World.cell?_alloc_new]
   simpa using hv
  .rw[World.cell?_alloc_lt _ _ _ (hs.h_lt hv)];exact hs.pers b o v hv
 .refine(hs.obj i l o h1 h2).carry (fun b hb=>heap_alloc_old w _ (h:=hs.lt i l b h1 hb)) hle (LLe.refl _) (fun b hb o'=>?_);have:=hs.lt i l b h1 hb;simp only[hA];rw[if_neg (by omega)]
 .have:=hs.lt i l b h1 h2;simp;omega
 .simp only[hA]at hv;split at hv
  .rename_i hb;exact .inr (.inr (by omega))
  .exact .inl hv
 .intro i u hu;simp[hA,hu]
theorem zTN(hs:RelSt H L U w){cs:wE}{us:wK}(e:TypeId)(hr:z8 H L cs us)(h1:∀u∈us,one u) :
 Nxt H L w H (L++[⟨some w.heap.size,0,0,false⟩]) (U++[.box cs]) (w.alloc (.cells us.toArray e)):=by
 have hll:=LLe.append L [⟨some w.heap.size,0,0,false⟩];have hget:∀{i:Nat} {l:LI},(L++[⟨some w.heap.size,0,0,false⟩])[i]?=some l->L[i]?=some l\/(i=L.length/\l=⟨some w.heap.size,0,0,false⟩):=by
  intro i l h;rcases jAv i L.length with hi|hi
  .rw[jAj hi]at h;exact .inl h
  .rw[jAw hi]at h;have h0:i-L.length=0:=by
    rcases Nat.eq_zero_or_pos (i-L.length)with h0|h0
    .exact h0
    .rw[jB7 (by simp;omega)]at h;cases h
   rw[h0]at h;simp only[jB,jA2]at h;exact .inr ⟨by omega,h.symm⟩
 refine⟨⟨fun b o v hv=>?_,by simp[hs.len],fun i l o hL hU=>?_,fun i j l l' b hi hj hb hb'=>?_,fun i l b hL hb=>?_⟩,⟨rfl,rfl,rfl,by simp,fun k hk _=>heap_alloc_old w _ (h:=hk),HLe.refl _,fun b o v hv=>.inl hv,jA _,nZ (heap_alloc_old w _)⟩,hll,fun b ⟨i,l,hL,hb⟩=>?_⟩
 .rw[World.cell?_alloc_lt _ _ _ (hs.h_lt hv)];exact hs.pers b o v hv
 .rcases hget hL with hL'|⟨rfl,rfl⟩
  .have hi:i<L.length:=(jA4.1 hL').1;rw[jAj (by rw[<-hs.len];exact hi)]at hU;exact(hs.obj i l o hL' hU).carry (fun b hb=>heap_alloc_old w _ (h:=hs.lt i l b hL' hb)) (HLe.refl _) hll (fun _ _ _=>rfl)
  .rw[jAw (by rw[hs.len];exact jA _)]at hU;simp only[hs.len,jBx,jB,jA2]at hU;subst hU;simp only[zV];refine⟨trivial,w.heap.size,us,e,rfl,heap_alloc_new w _,z8.mono (HLe.refl _) hll _ hr,h1,fun o=>?_⟩;cases hH:H w.heap.size o with
   |none=>rfl
   |some v=>have:=hs.h_lt hH;omega
 .rcases hget hi with hi'|⟨rfl,rfl⟩
  .rcases hget hj with hj'|⟨rfl,rfl⟩
   .exact hs.inj i j l l' b hi' hj' hb hb'
   .have:=hs.lt i l b hi' hb;simp only[jA2]at hb';omega
  .rcases hget hj with hj'|⟨rfl,rfl⟩
   .have:=hs.lt j l' b hj' hb';simp only[jA2]at hb;omega
   .rfl
 .rcases hget hL with hL'|⟨rfl,rfl⟩
  .have:=hs.lt i l b hL' hb;simp;omega
  .simp only[jA2]at hb;simp;omega
 .rcases hget hL with hL'|⟨rfl,rfl⟩
  .exact .inl ⟨i,l,hL',hb⟩
  .simp only[jA2]at hb;exact .inr (by omega)
end
end Go.Abs
namespace Go.Abs
section
variable{P:Program}{H:Mem}{L:wL} {U:St}{w:World}{N:Nat}{env:Env}{a:Act}
theorem vJ(hs:RelSt H L U w){l:Nat}{li:LI}{b:Nat}{o:AObj}{H':Mem}{w':World}(hl:L[l]?=some li)(hb:li.block=some b)
 (hos:w'.os=w.os)(htape:w'.tape=w.tape)(hout:w'.output=w.output)(hdr:w'.drawn=w.drawn)(hnd:∀d,w.heap[b]?≠some (.deferred d))(hsz:w'.heap.size=w.heap.size)(hkeep:∀k,k≠b->w'.heap[k]?=w.heap[k]?)
 (hle:HLe H H')(hnew:∀b' o' v,H' b' o'=some v->H b' o'=some v\/b'=b)(hpers:∀o' v,H' b o'=some v->w'.cell? ⟨b,o',none⟩=some v)
 (ho:zV H' L w' li o):Nxt H L w H' L (U.set l o) w':=by
 have hne:∀(i:Nat) l' b',L[i]?=some l'->l'.block=some b'->i≠l->b'≠b:=fun i l' b' h1 h2 hi e=>hi (hs.inj i l l' li b' h1 hl h2 (by rw[hb,e]))
 refine⟨⟨fun b' o' v hv=>?_,by simp[hs.len],fun i l' o' hL hU=>?_,hs.inj,fun i l' b' h1 h2=>by rw[hsz];exact hs.lt i l' b' h1 h2⟩,
  ⟨hos,htape,hout,by rw[hsz];exact jA _,fun k _ hk=>hkeep k (fun e=>hk ⟨l,li,hl,by rw[hb,e]⟩),hle,fun b' o' v hv=>?_,by rw[hdr];exact jA _,zQi hkeep hnd⟩,LLe.refl _,fun _ h=>.inl h⟩
 .by_cases hbb:b'=b
  .subst hbb;exact hpers o' v hv
  .rcases hnew b' o' v hv with h1|h1
   .have:=hs.pers b' o' v h1;simp only[World.cell?]at this ⊢;rw[hkeep b' hbb];exact this
   .exact(hbb h1).elim
 .by_cases hi:i=l
  .subst hi;rw[hl]at hL;cases hL;rw[jAm (by rw[<-hs.len];exact(jA4.1 hl).1)]at hU;cases hU;exact ho
  .rw[jA9 (Ne.symm hi)]at hU;refine(hs.obj i l' o' hL hU).carry (fun b' hb'=>hkeep b' (hne i l' b' hL hb' hi)) hle (LLe.refl _) (fun b' hb' o''=>?_);have hbne:=hne i l' b' hL hb' hi;cases h1:H b' o'' with
   |some v=>exact hle _ _ _ h1
   |none =>
    cases h2:H' b' o'' with
    |none=>rfl
    |some v =>
     rcases hnew b' o'' v h2 with h3|h3
     .rw[h1]at h3;cases h3
     .exact(hbne h3).elim
 .rcases hnew b' o' v hv with h1|h1
  .exact .inl h1
  .exact .inr (.inl ⟨l,li,hl,by rw[hb,h1]⟩)
def stA(U:St)(cs:wE):A->Option St
 | .ptr l off=>match U[l]? with
  |some (.box ds)=>if off+cs.length<=ds.length then some (U.set l (.box (ds.take off++cs++ds.drop (off+cs.length))))else none
  |_=>none
 | .rwp l m off=>match U[l]? with
  |some (.row false e sz k ds)=>if m=k/\off+cs.length<=ds.length then some (U.set l (.row false e sz k (ds.take off++cs++ds.drop (off+cs.length))))else none
  |_=>none
 |_=>none
variable{t:TypeId}{i:TypeInfo}
theorem zJJ{x:Value}{b off:Nat}{e:TypeId}{cur:Array Value}(hi:P.info? t=some i)(hsz:x.cells.size=i.size)(h1:∀u∈x.cells.toList,one u)
 (hh:w.heap[b]?=some (.cells cur e (0,0)))(hfit:off+x.cells.size<=cur.size) :
 (Instr.storeAt t (.pointer (some ⟨b,off,none⟩)) x).run P w=.ok () (w.setRow b (cur.toList.take off++x.cells.toList++cur.toList.drop (off+x.cells.size)).toArray):=by
 have hst:=run_storeCells_at P b off e x.cells.toList 0 cur w hh (by simpa using hfit) h1;simp only[jC6,jB2]at hst;simp[Instr.storeAt,Instr.sureAddr,storeVar,yM hi,hsz,hst]
theorem zSh{o:Oper}{x v:Operand}{cs:wE} {U':St}(ho:o.op=.store t x v)(hi:P.info? t=some i)(he:qG H L N env a.tmps)(hs:RelSt H L U w)
 (hc:cellsOf (ev env v)=some cs)(hn:cs.length=i.size)(hst:stA U cs (ev env x)=some U') :
 ∃w',(execOp a.eval o).run P w=.ok .skip w'/\Nxt H L w H L U' w':=by
 obtain⟨g1,g2⟩:=uP (qQ he v) hc;have hlen:=g1.length;have hx:=qQ he x;have hsz:(a.eval v).cells.size=i.size:=by rw[<-jB2,hlen,hn]
 have fin:∀b off e cur,a.eval x=.pointer (some ⟨b,off,none⟩)->w.heap[b]?=some (.cells cur e (0,0))->off+(a.eval v).cells.size<=cur.size ->
  (execOp a.eval o).run P w=.ok .skip (w.setRow b (cur.toList.take off++(a.eval v).cells.toList++cur.toList.drop (off+(a.eval v).cells.size)).toArray):=by
  intro b off e cur hv hh hfit;unfold execOp;simp only[ho,hv,Sem.run_bind,zJJ hi hsz g2 hh hfit,Result.andThen_ok,Sem.run_pure]
 unfold stA at hst;split at hst<;>try(cases hst;done)
 .rename_i l off hxe;split at hst<;>try(cases hst;done)
  rename_i ds hds;split at hst<;>try(cases hst;done)
  rename_i hfit;cases hst;rw[hxe]at hx;simp only[Rel]at hx;obtain⟨li,b,e1,e2,e3,hv⟩:=hx;have hob:=hs.obj l li _ e1 hds;simp only[zV]at hob;obtain⟨_,b',vs,e,hb',hh,hr,h1,hH⟩:=hob;rw[e2]at hb';cases hb';have hvl:=hr.length;refine⟨_,fin b off e _ hv hh (by simp only[jCa];omega),?_⟩;refine vJ hs e1 e2 rfl rfl rfl rfl (fun d=>by rw[hh];simp) (by simp) (fun k hk=>setRow_other w b k _ hk) (HLe.refl _) (fun _ _ _ h=>.inl h) (fun o' v hv=>by rw[hH]at hv;cases hv) ?_;simp only[zV];refine⟨e3,b,_,e,e2,setRow_heap w b _ _ e _ hh,?_,?_,hH⟩
  .rw[hsz,<-hn];exact((hr.take off).append g1).append (hr.drop _)
  .intro u hu;simp only[jAa]at hu;rcases hu with (hu|hu)|hu
   .exact h1 u (jCd hu)
   .exact g2 u hu
   .exact h1 u (jC7 hu)
 .rename_i l m off hxe;split at hst<;>try(cases hst;done)
  rename_i e sz k ds hds;split at hst<;>try(cases hst;done)
  rename_i hfit;obtain⟨rfl,hfit⟩:=hfit;cases hst;rw[hxe]at hx;simp only[Rel]at hx;obtain⟨_,li,e1,e2,e3,hv⟩:=hx;have hob:=hs.obj l li _ e1 hds;simp only[zV]at hob;obtain⟨_,hln,hcl,hob⟩:=hob;obtain⟨b,hb,hv⟩:=hv hln.symm;rcases hob with ⟨h0,_⟩|⟨b',cur,hb',hh,k1,k2,k3,k4,k5,k6⟩
  .rw[hb]at h0;cases h0
  .rw[hb]at hb';cases hb';have hmc:m*sz<=cur.size:=by rw[k3];exact jBs _ k1
   have hcs:off+(a.eval v).cells.size<=cur.size:=by rw[hsz,<-hn];omega
   refine⟨_,fin b off e _ hv hh hcs,?_⟩;refine vJ hs e1 hb rfl rfl rfl rfl (fun d=>by rw[hh];simp) (by simp) (fun k hk=>setRow_other w b k _ hk) (HLe.refl _) (fun _ _ _ h=>.inl h) (fun o' v hv=>by rw[k6]at hv;cases hv) ?_;have htake:(cur.toList.take off++(a.eval v).cells.toList++cur.toList.drop (off+(a.eval v).cells.size)).take (m*sz) =
    (cur.toList.take (m*sz)).take off++(a.eval v).cells.toList++(cur.toList.take (m*sz)).drop (off+(a.eval v).cells.size):=by
    have hl1:(cur.toList.take off++(a.eval v).cells.toList).length=off+(a.eval v).cells.size:=by simp;omega
    have hle2:off+(a.eval v).cells.size<=m*sz:=by rw[hsz,<-hn,<-hcl];exact hfit
    rw[List.take_append,hl1,jAc (by rw[hl1];exact hle2),List.take_take,jAt (by omega),List.drop_take]
   simp only[zV];refine⟨e2,hln,by simp;omega,.inr ⟨b,_,hb,setRow_heap w b _ _ e _ hh,k1,k2,by simp;omega,?_,?_,k6⟩⟩
   .rw[htake,hsz,<-hn];exact((k4.take off).append g1).append (k4.drop _)
   .rw[htake];intro u hu;simp only[jAa]at hu;rcases hu with (hu|hu)|hu
    .exact k5 u (jCd hu)
    .exact g2 u hu
    .exact k5 u (jC7 hu)
end
end Go.Abs

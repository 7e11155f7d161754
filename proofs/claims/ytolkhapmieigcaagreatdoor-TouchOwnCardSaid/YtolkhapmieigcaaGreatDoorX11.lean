/- value.SameType, trace.sameDef, trace.sameNode, trace.bodied. -/
import Derived.Test.YtolkhapmieigcaaGreatDoorX10
set_option linter.unusedVariables false
set_option maxHeartbeats 8000000
set_option maxRecDepth 100000
set_option linter.unusedSimpArgs false
open Go.Proofs.Tryz
namespace Go.Proofs.YtolkhapmieigcaaGreatDoor
open Go.Abs
@[simp]theorem zRC:zA prog 130=true:=by kernel_rfl
@[simp]theorem zY0:zA prog 129=true:=by kernel_rfl
@[simp]theorem zY1:zA prog 132=true:=by kernel_rfl
mutual
def yT:Typ->Typ->Bool
 | .mk k i l,.mk k' i' l'=>decide (k=k')&&(decide (i=i')&&mZ l l')
def mZ:List Typ->List Typ->Bool
 |[],[]=>true
 |x::a,y::b=>yT x y&&mZ a b
 |_,_=>false
end
theorem zIi:∀(a b:wT),mZ a b=bM yT a b
 |[],[]=>by simp only[mZ,bM]
 |x::a,y::b=>by simp only[mZ,bM,zIi a b]
 |[],_::_=>by simp only[mZ,bM]
 |_::_,[]=>by simp only[mZ,bM]
theorem zIh(a b:Typ):yT a b=(decide (a.k=b.k)&&(decide (a.id=b.id)&&bM yT a.kids b.kids)):=by cases a;cases b;simp only[yT,zIi];rfl
mutual
theorem gJ:∀(a b:Typ),yT a b=true↔a=b
 | .mk k i l,.mk k' i' l'=>by simp only[yT,jA8,decide_eq_true_eq,zGt l l',Typ.mk.injEq]
theorem zGt:∀(a b:wT),mZ a b=true↔a=b
 |[],[]=>by simp[mZ]
 |x::a,y::b=>by simp only[mZ,jA8,gJ x y,zGt a b,jBd]
 |[],_::_=>by simp[mZ]
 |_::_,[]=>by simp[mZ]
end
theorem lW(a:Typ):yT a a=true:=(gJ a a).2 rfl
mutual
theorem pV:∀(a b:Typ),my 130 [.agg (zF a),.agg (zF b)] [] (bl (yT a b)) []
 | .mk k i l,b=>by
  have ih:=zCr l;generalize ha:Typ.mk k i l=a;have hal:a.kids=l:=by rw[<-ha];rfl
  rw[<-hal]at ih;refine mq [] [.slot 4] func130 (by kernel_rfl) ?_
  (conv in kq _ _=>cbv)
  have hd:=zIh a b;by_cases h1:a.k=b.k
  .by_cases h2:a.id=b.id
   .simp[zF,h1,h2];refine mu (zUB 130 zRC yT a.kids b.kids fun x hx y hy=>ih x hx y) (by simp) ?_;simp;exact zB 0 (by simp[hd,h1,h2])
   .have h3:iJ a.id.a a.id.b a.id.c b.id.a b.id.b b.id.c=false:=by rw[eC];exact decide_eq_false h2
    simp[zF,h1,h3];exact zB 0 (by simp[hd,h2])
  .simp[zF,h1];exact zB 0 (by simp[hd,h1])
theorem zCr:∀(l:wT),∀x∈l,∀y:Typ,my 130 [.agg (zF x),.agg (zF y)] [] (bl (yT x y)) []
 |[],x,hx,_=>by simp at hx
 |z::l,x,hx,y=>by
  rcases jA1.1 hx with e|hx
  .rw[e];exact pV z y
  .exact zCr l x hx y
end
def dU(k:Int):Bool:=decide (k=2)||(decide (k=3)||(decide (k=4)||decide (k=5)))
theorem xV(d:Dfn):my 101 [.agg (zJ d)] [] (bl (dU d.kind)) []:=by
 refine mq [] [.slot 2] func101 (by kernel_rfl) ?_
 (conv in kq _ _=>cbv)
 by_cases h2:d.kind=2
 .simp[zJ,h2];exact zB 0 (by simp[dU,h2])
 .by_cases h3:d.kind=3
  .simp[zJ,h2,h3];exact zB 0 (by simp[dU,h2,h3])
  .by_cases h4:d.kind=4
   all_goals
    simp[zJ,h2,h3,h4];exact zB 0 (by simp[dU,h2,h3,h4])
def gU(x y:Slt):Bool:=decide (x.id=y.id)&&(yT x.typ y.typ&&decide (x.most=y.most))
theorem zLq(x y:Slt):my 129 [.agg (aF x),.agg (aF y)] [] (bl (gU x y)) []:=by
 refine mq [] [.slot 4] func129 (by kernel_rfl) ?_
 (conv in kq _ _=>cbv)
 by_cases h1:x.id=y.id
 .simp[aF,h1];refine mu (pV x.typ y.typ) (by simp[zF]) ?_;cases h2:yT x.typ y.typ with
  |true =>
   simp;exact zB 0 (by simp[gU,h1,h2])
  |false =>
   simp;exact zB 0 (by simp[gU,h1,h2])
 .have h3:iJ x.id.a x.id.b x.id.c y.id.a y.id.b y.id.c=false:=by rw[eC];exact decide_eq_false h1
  simp[aF,h3];exact zB 0 (by simp[gU,h1])
def uN(x y:Exp):Bool:=decide (x.id=y.id)
theorem zJy(x y:Exp):my 132 [.agg (zG x),.agg (zG y)] [] (bl (uN x y)) []:=by
 refine mq [] [.slot 4] func132 (by kernel_rfl) ?_
 (conv in kq _ _=>cbv)
 simp[zG];exact zB 0 (by simp[uN])
def yQ(a b:Dfn):Bool:=decide (a.kind=b.kind)&&(bM gU a.slots b.slots&&(yT a.res b.res&&(!dU a.kind||decide (a.body.id=b.body.id))))
theorem zNt(a b:Dfn):my 63 [.agg (zJ a),.agg (zJ b)] [] (bl (yQ a b)) []:=by
 refine mq [] [.slot 4] func63 (by kernel_rfl) ?_
 (conv in kq _ _=>cbv)
 by_cases h1:a.kind=b.kind
 .simp[zJ,h1];refine mu (zUA 129 zY0 gU a.slots b.slots fun x _ y _=>zLq x y) (by simp) ?_;cases h2:bM gU a.slots b.slots with
  |false =>
   simp;exact zB 0 (by simp[yQ,h1,h2])
  |true =>
   simp[zJ];refine mu (pV a.res b.res) (by simp[zF]) ?_;cases h3:yT a.res b.res with
   |false =>
    simp;exact zB 0 (by simp[yQ,h1,h2,h3])
   |true =>
    simp[zJ];refine mu (xV a) (by simp[zJ,h1]) ?_;cases h4:dU a.kind with
    |false =>
     simp;exact zB 0 (by rw[h1]at h4;simp[yQ,h1,h2,h3,h4])
    |true =>
     simp[zJ];exact zB 0 (by rw[h1]at h4;simp[yQ,h1,h2,h3,h4])
 .simp[zJ,h1];exact zB 0 (by simp[yQ,h1])
def cH(a b:Exp):Bool:=decide (a.k=b.k)&&(decide (a.n=b.n)&&(decide (a.ref=b.ref)&&(yT a.typ b.typ&&bM uN a.kids b.kids)))
theorem zLv(a b:Exp):my 65 [.agg (zG a),.agg (zG b)] [] (bl (cH a b)) []:=by
 refine mq [] [.slot 4] func65 (by kernel_rfl) ?_
 (conv in kq _ _=>cbv)
 by_cases h1:a.k=b.k
 .by_cases h2:a.n=b.n
  .by_cases h3:a.ref=b.ref
   .simp[zG,h1,h2,h3];refine mu (pV a.typ b.typ) (by simp[zF]) ?_;cases h4:yT a.typ b.typ with
    |false =>
     simp;exact zB 0 (by simp[cH,h1,h2,h3,h4])
    |true =>
     simp[zG];refine mu (zU9 132 zY1 uN a.kids b.kids fun x _ y _=>zJy x y) (by simp) ?_;simp;exact zB 0 (by simp[cH,h1,h2,h3,h4])
   .have h5:iJ a.ref.a a.ref.b a.ref.c b.ref.a b.ref.b b.ref.c=false:=by rw[eC];exact decide_eq_false h3
    simp[zG,h1,h2,h5];exact zB 0 (by simp[cH,h1,h2,h3])
  .simp[zG,h1,h2];exact zB 0 (by simp[cH,h1,h2])
 .simp[zG,h1];exact zB 0 (by simp[cH,h1])
theorem zPX(x y:Id):my 96 [.agg (zS x),.agg (zS y)] [] (bl (cG x y)) []:=by
 refine mq [] [.slot 4] func96 (by kernel_rfl) ?_
 (conv in kq _ _=>cbv)
 by_cases h1:x.a=y.a
 .by_cases h2:x.b=y.b
  all_goals
   simp[zS,h1,h2];exact zB 0 (by simp[cG,h1,h2])
 .simp[zS,h1];exact zB 0 (by simp[cG,h1])
theorem zQy(a b:wG):my 12 [.sl a.length (zY a),.sl b.length (zY b)] [] (bl (decide (a=b))) []:=by
 refine mq [] [.slot 4] func12 (by kernel_rfl) ?_
 (conv in kq _ _=>cbv)
 by_cases hab:a.length=b.length
 .have hab':(a.length:Int)=b.length:=by omega
  simp[hab];intro hlb;refine qI (S:=Nat) (fun i=>[(0,.sl a.length (zY a)),(1,.sl b.length (zY b)),(5,int i)]) (fun s=>[]) (fun i=>i<=a.length/\a.take i=b.take i) (fun i=>a.length-i) 0 (by simp)
   (mw [] 0 (by rfl) (by simp[hab])) ?_
  rintro i ⟨hi,hn⟩;by_cases h:i<a.length
  .have hb:i<b.length:=by omega
   simp[h,hb,jN h,jN hb];intro hl;refine jI (fun h'=>?_) (fun h'=>?_)<;>simp at h'<;>simp
   .have hx:a[i]≠b[i]:=fun e=>by rw[e]at h';simp at h'
    have hne:a≠b:=fun e=>hx (by subst e;rfl)
    exact zB 0 (by simp[hne])
   .have hx:a[i]=b[i]:=h';refine zO (i+1) ⟨h,?_⟩ (by omega) (mw [] 0 (by rfl) (by simp[zZ h hl]));rw[jA7 h,jA7 hb,hn,hx]
  .have:i=a.length:=by omega
   subst this;simp;have:a=b:=by rw[jAs,hab,jAs]at hn;exact hn
   exact fun _=>zB 0 (by simp[this])
 .have hne:a≠b:=fun e=>hab (by rw[e])
  have hab':¬(a.length:Int)=b.length:=by omega
  simp[hab'];exact fun _ _=>zB 0 (by simp[hne])
def iA(x:Id)(s:wG×Bool)(y:Id):wG×Bool:=((s.1++(if s.2=false/\cG y x=false then [x]else []))++(if y=x then []else [y]),s.2||!cG y x)
def zFB(x:Id)(s:wG×Bool):wG:=if s.2 then s.1 else s.1++[x]
theorem zK9(x:Id):∀(l:wG) (s:wG×Bool),(l.foldl (iA x) s).1.length<=s.1.length+2*l.length
 |[],s=>by simp
 |y::l,s=>by
  have:=zK9 x l (iA x s y);have h2:(iA x s y).1.length<=s.1.length+2:=by unfold iA;simp only[jA4];split<;>split<;>simp
  simp only[jAw,jAc];omega
theorem zDe(x:Id):∀(l:wG) (o:wG),x∉l->l.foldl (iA x) (o,true)=(o++l,true)
 |[],o,_=>by simp
 |y::l,o,h=>by
  have hy:y≠x:=fun e=>h (by simp[e])
  have:=zDe x l (o++[y]) (fun e=>h (by simp[e]));simp only[jAw,iA,Bool.true_eq_false,false_and,if_false,if_neg hy,jAt,Bool.true_or,this,jAq,jCn]
theorem zOn(x:Id):∀(l:wG) (o:wG),SS l->zFB x (l.foldl (iA x) (o,false))=o++iV l x
 |[],o,_=>by simp[zFB,iV]
 |y::l,o,h=>by
  obtain⟨h1,h2⟩:=jC2.1 h;by_cases hl:cG y x=true
  .have hy:y≠x:=fun e=>by subst e;simp[cG]at hl
   have:=zOn x l (o++[y]) h2;simp only[jAw,iA,hl,Bool.not_true,Bool.or_false,if_neg hy,iV,if_true];simp only[Bool.true_eq_false,and_false,if_false,jAt];rw[this];simp
  .have hl':cG y x=false:=by simpa using hl
   have hn:x∉l:=fun hx=>by have:=h1 x hx;rw[hl']at this;cases this
   simp only[jAw,iA,hl',Bool.not_false,Bool.or_true,and_self,if_true,iV,jAg,if_false];by_cases hy:y=x
   .subst hy;rw[zDe _ _ _ hn];simp[zFB]
   .rw[if_neg hy,if_neg hy,zDe _ _ _ hn];simp[zFB]
theorem zVG{P:Program}{f:FuncId}{args:wF}{e:TypeId}{l:wG}(h:Ret P f args [] (.row 0 l.length) [.row false e 3 l.length (zY l)]):Ret P f args [] (.sl l.length (zY l)) [] :=
 tX (aK.mono h fun o U' hh=>by obtain⟨rfl,rfl⟩:=hh;exact zB 1 (by simp))
theorem zPO(l:wG)(x:Id)(hl6:l.length<=1000):my 41 [.sl l.length (zY l),.agg (zS x)] [] (.row 0 (zFB x (l.foldl (iA x) ([],false))).length) [.row false 32 3 (zFB x (l.foldl (iA x) ([],false))).length (zY (zFB x (l.foldl (iA x) ([],false))))]:=by
 refine mq [] [.slot 4] func41 (by kernel_rfl) ?_
 (conv in kq _ _=>cbv)
 simp[zS];refine qI (S:=Nat) (fun i=>[(0,.sl l.length (zY l)),(3,.ptr 0 0),(5,.row 1 ((l.take i).foldl (iA x) ([],false)).1.length),(6,bl ((l.take i).foldl (iA x) ([],false)).2),(7,int i)]) (fun i=>[.box (zS x),.row false 32 3 ((l.take i).foldl (iA x) ([],false)).1.length (zY ((l.take i).foldl (iA x) ([],false)).1)]) (fun i=>i<=l.length) (fun i=>l.length-i) 0 (by simp)
  ((jS (t:=5) (by simp) 32 3).trans (mw [0,1] 0 (by rfl) (by simp[zS]))) ?_
 intro i hi;have hmx:l.length<=maxLen:=by simp[maxLen];omega
 have hsl:=zK9 x (l.take i) ([],false);rw[jAv]at hsl;by_cases h:i<l.length
 .have hst:(l.take (i+1)).foldl (iA x) ([],false)=iA x ((l.take i).foldl (iA x) ([],false)) l[i]:=by rw[jA7 h,jBv];rfl
  generalize (l.take i).foldl (iA x) ([],false)=s at *
  obtain⟨o,d⟩:=s;simp only[jB4]at hsl;have hne:l≠[]:=fun e=>by rw[e]at h;simp at h
  have less:=zPX l[i] x;cases d
  .cases hls:cG l[i] x
   .simp[h,jN h,zS,hne];intro _;refine qC less (by simp[zS]) (by simp) ?_;by_cases hx:l[i]=x
    .simp[h,jN h,zS,hne,hx,eY];refine⟨⟨by simp[maxLen];omega,by omega⟩,?_⟩;exact zO (i+1) h (by omega) (mw [0,1] 0 (by rfl) (by simp[zS,hst,iA,hx,eY,qO,zY,zZ h hmx]))
    .simp[hls,h,jN h,zS,hne,hx];refine⟨⟨by simp[maxLen];omega,by omega⟩,?_⟩;refine⟨⟨by simp[maxLen];omega,by omega⟩,?_⟩;exact zO (i+1) h (by omega) (mw [0,1] 0 (by rfl) (by simp[zS,hst,iA,hx,hls,qO,zY,zZ h hmx]))
   .have hx:¬l[i]=x:=fun e=>by rw[e,eY]at hls;cases hls
    simp[h,jN h,zS,hne];intro _;refine qC less (by simp[zS]) (by simp) ?_;simp[hls,h,jN h,zS,hne,hx];refine⟨⟨by simp[maxLen];omega,by omega⟩,?_⟩;exact zO (i+1) h (by omega) (mw [0,1] 0 (by rfl) (by simp[zS,hst,iA,hx,hls,qO,zY,zZ h hmx]))
  .by_cases hx:l[i]=x
   .simp[h,jN h,zS,hne,hx];intro _;exact zO (i+1) h (by omega) (mw [0,1] 0 (by rfl) (by simp[zS,hst,iA,hx,qO,zY,zZ h hmx]))
   .simp[h,jN h,zS,hne,hx];intro _;refine⟨⟨by simp[maxLen];omega,by omega⟩,?_⟩;exact zO (i+1) h (by omega) (mw [0,1] 0 (by rfl) (by simp[zS,hst,iA,hx,qO,zY,zZ h hmx]))
 .have hie:i=l.length:=by omega
  subst hie;rw[jAs]at *
  generalize l.foldl (iA x) ([],false)=s at *
  obtain⟨o,d⟩:=s;cases d
  .simp[zS];intro _;have hsl2:o.length<=2*l.length:=by simpa using hsl
   refine⟨⟨by simp[maxLen];omega,by omega⟩,?_⟩;exact mv [1] 0 (by rfl) (by simp[zFB,qO,zY])
  .simp[zS];exact fun _=>mv [1] 0 (by rfl) (by simp[zFB])
theorem zPP{l:wG}(h:SS l)(x:Id)(hl:l.length<=1000):my 41 [.sl l.length (zY l),.agg (zS x)] [] (.row 0 (iV l x).length) [.row false 32 3 (iV l x).length (zY (iV l x))]:=by have:=zPO l x hl;rw[zOn x l [] h]at this;exact this
@[simp]theorem qMC:zA prog 235=true:=by kernel_rfl
def bJ(n:Int):Int:=if 1099511627776<n then 1099511627776 else if n < -1099511627776 then -1099511627776 else n
@[simp]theorem qMT:zA prog 234=true:=by kernel_rfl
def gA(b:Bool):Val:=.mk 1 (if b then 1 else 0) []
structure EVar where
 id:Id
 n:Int
 v:Val
abbrev wP:=List EVar
def pL(b:EVar):wF:=[.lit (.int .i64 b.id.a),.lit (.int .i64 b.id.b),.lit (.int .i64 b.id.c),.lit (.int .i64 b.n),.lit (.int .i64 b.v.k),.lit (.int .i64 b.v.n),.sl b.v.kids.length (zT b.v.kids)]
theorem vI(b:EVar):j4 (pL b):=by have h:=eV b.v.kids;exact⟨by simp[pL,h.1],fun rf g=>by simp[pL,h.2]⟩
def mE(l:wP):wF:=l.flatMap pL
theorem zA2(l:wP):j4 (mE l):=dJ vI l
@[simp]theorem zV0(l:wP):jV (mE l)=mE l:=(zA2 l).1
@[simp]theorem qAr{rf g}(l:wP):vwL rf g (mE l)=mE l:=(zA2 l).2 _ _
@[simp]theorem zWQ:mE []=[]:=rfl
@[simp]theorem zWP(l:wP):(mE l).length=l.length*7:=by rw[mE,fA (k:=7) (fun _=>rfl)]
@[simp]theorem qAY(d:EVar):(pL d).length=7:=rfl
@[simp]theorem qAX(d:EVar):(pL d).take 7=pL d:=jAl (jA _)
@[simp]theorem zYY(d:EVar)(l:wF):(pL d++l).take 7=pL d:=by rw[jCe (by simp)];exact jAl (by simp)
@[simp]theorem zZ6(d:EVar):jV (pL d)=pL d:=(vI d).1
@[simp]theorem qHK(d:EVar) {rf g}:vwL rf g (pL d)=pL d:=(vI d).2 _ _
def rT(env:wP)(id:Id)(n:Int):Val:=((env.reverse.find? fun b=>decide (b.id=id/\b.n=n)).map EVar.v).getD (.mk 0 0 [])
theorem zFz(env:wP)(b:EVar)(id:Id)(n:Int):rT (env++[b]) id n=if b.id=id/\b.n=n then b.v else rT env id n:=by unfold rT;rw[List.reverse_append,List.reverse_singleton,jCn,jC4];by_cases h:b.id=id/\b.n=n<;>simp[h]
@[simp]theorem qMH:zA prog 227=true:=by kernel_rfl
theorem zEE(v:Val):my 195 [.agg (zN v)] [] (int (uO v)) []:=by
 refine mq [] [.slot 2] func195 (by kernel_rfl) ?_
 (conv in kq _ _=>cbv)
 simp[zN];intro hl;refine qI (S:=Nat) (fun i=>[(3,int (zJ3 (v.kids.take i))),(7,.sl v.kids.length (zT v.kids)),(8,int v.kids.length),(9,int i)]) (fun s=>[]) (fun i=>i<=v.kids.length) (fun i=>v.kids.length-i) 0 (by simp)
  (mw [] 0 (by rfl) (by simp[zJ3])) ?_
 intro i hi;simp;by_cases h:i<v.kids.length
 .simp[h,jE h];refine mu (zEE v.kids[i]) (by simp[zN]) ?_;simp;exact zO (i+1) h (by omega) (mw [] 0 (by rfl) (by simp[zZ h hl,zIo h]))
 .have:i=v.kids.length:=by omega
  subst this;simp;exact zB 0 (by simp[zL6 v])
termination_by qY v
decreasing_by exact cV (jA0 _)
theorem zOa(v:Val):my 203 [.agg (zN v)] [] (int (mW v)) []:=by
 refine mq [] [.slot 2] func203 (by kernel_rfl) ?_
 (conv in kq _ _=>cbv)
 simp[zN];intro hl;refine qI (S:=Nat) (fun i=>[(3,int (zJc (v.kids.take i))),(7,.sl v.kids.length (zT v.kids)),(8,int v.kids.length),(9,int i)]) (fun s=>[]) (fun i=>i<=v.kids.length) (fun i=>v.kids.length-i) 0 (by simp)
  (mw [] 0 (by rfl) (by simp[zJc])) ?_
 intro i hi;simp;by_cases h:i<v.kids.length
 .simp[h,jE h];refine mu (zOa v.kids[i]) (by simp[zN]) ?_;simp;exact zO (i+1) h (by omega) (mw [] 0 (by rfl) (by simp[zZ h hl,zHO h,zQd]))
 .have:i=v.kids.length:=by omega
  subst this;simp;exact zB 0 (by simp[zHy v,w64])
termination_by qY v
decreasing_by exact cV (jA0 _)
@[simp]theorem qNz:zA prog 216=true:=by kernel_rfl
mutual
def eW:Val->Nat
 | .mk _ _ l=>gF l+1
def gF:List Val->Nat
 |[]=>0
 |v::l=>max (eW v) (gF l)
end
theorem nY(v:Val):eW v=gF v.kids+1:=by cases v;simp only[eW,Val.kids]
theorem i9(v:Val):qY v=1+j3 v.kids:=by cases v;simp only[qY,Val.kids]
theorem zDO:∀{l:wI} {v:Val},v∈l->eW v<=gF l
 |x::l,v,h=>by
  simp only[gF];rcases jA1.1 h with rfl|h
  .omega
  .have:=zDO h;omega
theorem gV:∀(a b:wI),j3 (a++b)=j3 a+j3 b
 |[],b=>by simp[j3]
 |x::a,b=>by simp[j3,gV a b];omega
variable{i:Nat}
theorem zEu{l:wI}(h:i<l.length):j3 (l.take (i+1))=j3 (l.take i)+qY l[i]:=by rw[jA7 h,gV];simp[j3]
theorem zCv(l:wI)(i:Nat):j3 l=j3 (l.take i)+j3 (l.drop i):=by
 conv=>lhs;rw[<-jBw i l]
 exact gV _ _
def fS:A:=.clo 190 [] [.ptr 0 0,.ptr 1 0]
def sSt(L:Nat):St:=[.box [int L],.box [fS]]
def sE(L:Nat)(d:Int):St:=[.box [int L],.box [fS],.box [int d]]
def zE0(v:Val)(d:Int):Prop:=∀L:Nat,qY v<=L->L<=256->my 190 [.agg (zN v),int d,.ptr 0 0,.ptr 1 0] (sSt L) (bl true) (sSt (L-qY v))
theorem zQ3(v:Val)(d:Int)(hd:0<=d/\d<=100)(h:zE0 v (d+1))(L:Nat)(hL:qY v<=L)(hL2:L<=256) :
 my 192 [.agg (zN v),.ptr 1 0,.ptr 2 0] (sE L d) (bl false) (sE (L-qY v) d):=by
 refine mq [] [.slot 4] func192 (by kernel_rfl) ?_
 (conv in kq _ _=>cbv)
 have hw:=qF (d+1) (by omega);simp[sE,fS,hw,zN];refine mr (h L hL hL2) [0,1] (by simp[sSt,fS,zN]) ?_;simp[sSt,fS];exact mv [0,1,2] 0 (by rfl) (by simp[fS])
theorem zUS(l:wI)(d:Int)(hd:0<=d/\d<=100)(h:∀x∈l,zE0 x (d+1))(L:Nat)(hL:j3 l<=L)(hL2:L<=256) :
 my 216 [.sl l.length (zT l),.clo 192 [] [.ptr 1 0,.ptr 2 0]] (sE L d) (int (-1)) (sE (L-j3 l) d):=by
 refine mq [] [.slot 4] func216 (by kernel_rfl) ?_
 (conv in kq _ _=>cbv)
 simp[sE,fS];intro hl;refine qI (S:=Nat) (fun i=>[(0,.sl l.length (zT l)),(1,.clo 192 [] [.ptr 1 0,.ptr 2 0]),(6,.sl l.length (zT l)),(7,int l.length),(8,int i)]) (fun i=>sE (L-j3 (l.take i)) d) (fun i=>i<=l.length) (fun i=>l.length-i) 0 (by simp)
  (mw [0,1,2] 0 (by rfl) (by simp[sE,fS,j3])) ?_
 intro i hi;by_cases hil:i<l.length
 .have e1:=zEu hil;have e2:=zCv l (i+1);simp[hil,jE hil,sE,fS];refine mr (zQ3 l[i] d hd (h _ (jA0 hil)) (L-j3 (l.take i)) (by omega) (by omega)) [0,1,2] (by simp[sE,fS,zN]) ?_;simp[sE,fS];exact zO (i+1) hil (by omega) (mw [0,1,2] 0 (by rfl) (by simp[sE,fS,e1,Nat.sub_sub,zZ hil hl]))
 .have:i=l.length:=by omega
  subst this;simp[sE,fS];exact mv [0,1,2] 0 (by rfl) (by simp[fS])
theorem zUv(l:wI)(d:Int)(hd:0<=d/\d<=100)(h:∀x∈l,zE0 x (d+1))(L:Nat)(hL:j3 l<=L)(hL2:L<=256) :
 my 191 [.sl l.length (zT l),.clo 192 [] [.ptr 1 0,.ptr 2 0]] (sE L d) (bl false) (sE (L-j3 l) d):=by
 refine mq [] [.slot 4] func191 (by kernel_rfl) ?_
 (conv in kq _ _=>cbv)
 simp[sE,fS];refine mr (zUS l d hd h L hL hL2) [0,1,2] (by simp[sE,fS]) ?_;simp[sE,fS];exact mv [0,1,2] 0 (by rfl) (by simp[fS])
theorem zGz(v:Val)(d:Int)(hd:1<=d/\d+eW v<=25):zE0 v d:=by
 intro L hL hL2;refine mq [] [.slot 6] func190 (by kernel_rfl) ?_
 (conv in kq _ _=>cbv)
 have e1:=i9 v;have e2:=nY v;have hw:IntKind.i64.wrap ((L:Int)-1)=((L-1:Nat):Int):=by rw[IntWalk.i64_in _ (by omega)];omega
 have hd24:d<=24:=by omega
 simp[sSt,fS,hw,hd24,zN];refine mr (zUv v.kids d (by omega) (fun x hx=>zGz x (d+1) (by have:=zDO hx;omega)) (L-1) (by omega) (by omega)) [0,1,3] (by simp[sE,fS]) ?_;simp[sE,fS];exact mv [0,1] 0 (by rfl) (by simp[fS,e1,Nat.sub_sub])
termination_by qY v
decreasing_by exact cV hx
theorem zT2(v:Val)(h1:qY v<=256)(h2:eW v<=24):my 146 [.agg (zN v)] [] (bl true) []:=by
 refine mq [] [.slot 2] func146 (by kernel_rfl) ?_
 (conv in kq _ _=>cbv)
 simp[zN];refine mr (zGz v 1 (by omega) 256 h1 (by omega)) [1,2] (by simp[sSt,fS,zN]) ?_;simp[sSt,fS];exact zB 0 (by simp)
theorem zGS:my 58 [.sl 0 []] [] (.sl 0 []) []:=by refine zH func58 rfl zJL (rs:=[.slot 2]) (by kernel_rfl) ?_;unfold zEJ;simp;exact zB 0 (by simp)
theorem zBo(l:wG)(hb:l.length<=4000000000):my 61 [.sl l.length (zY l)] [] (.sl (aT l).length (zY (aT l))) []:=by
 refine mq [] [.slot 2] func61 (by kernel_rfl) ?_
 (conv in kq _ _=>cbv)
 simp;by_cases h:l=[]
 .subst h;refine mr zKb [] (by simp) ?_;simp;refine mr (zNz (.clo 128 [] [])) [] (by simp) ?_;simp;refine mr zGS [] (by simp) ?_;simp;exact zB 0 (by simp[aT,bQ,yS])
 .refine mr (zKa l h hb) [] (by simp) ?_;simp;refine mr (zNy l (by omega)) [0] (by simp) ?_;have hp:=(fZ l).length_eq;simp;have hc:=zFk (bQ iM l) (by omega);rw[hp]at hc;refine mr hc [0] (by simp) ?_;have hle:=zCN (bQ iM l);simp[zHx];by_cases hcc:yS (bQ iM l)=bQ iM l
  .simp[hcc,hp];exact zB 1 (by simp[aT,hcc,hp,cJ])
  .simp[hcc,hp];have h0:(yS (bQ iM l)).length≠0:=fun e=>by have h1:=jBx e;obtain⟨x,hx⟩:=List.exists_mem_of_ne_nil l h;have:=(zCO (x:=x) (bQ iM l)).2 ((fZ l).mem_iff.2 hx);rw[h1]at this;simp at this
   exact zB 1 (by simp[aT,h0,qO])
theorem zIZ(a b:Trc)(h1:a.defs.length+b.defs.length<=4000000000)(h2:a.nodes.length+b.nodes.length<=4000000000) :
 my 46 [.agg (yY a),.agg (yY b)] [] (.agg (yY ⟨aT (a.defs++b.defs),aT (a.nodes++b.nodes)⟩)) []:=by
 refine mq [] [.cell 4 2 true] func46 (by kernel_rfl) ?_
 (conv in kq _ _=>cbv)
 have e1:[a.defs,b.defs].flatten=a.defs++b.defs:=by simp
 have e2:[a.nodes,b.nodes].flatten=a.nodes++b.nodes:=by simp
 simp[yY];refine qC (sY [a.defs,b.defs] (by rw[eI,e1,jA4];exact h1)) (by simp[bX]) (by simp) ?_;rw[eI,e1];simp;refine qC (zBo (a.defs++b.defs) (by rw[jA4];exact h1)) (by simp) (by simp) ?_;simp;refine qC (sY [a.nodes,b.nodes] (by rw[eI,e2,jA4];exact h2)) (by simp[bX]) (by simp) ?_;rw[eI,e2];simp;refine qC (zBo (a.nodes++b.nodes) (by rw[jA4];exact h2)) (by simp) (by simp) ?_;simp;exact zB 0 (by simp)
def rZ(l:wG):List (wC×A):=l.foldl (fun es d=>lS (eK d) (.lit (.bool true)) es) []
theorem zDg(l:wG)(x:Id):rZ (l++[x])=lS (eK x) (.lit (.bool true)) (rZ l):=by simp[rZ,jBv]
variable{x:Id}
theorem vT{y:Id}:eK x=eK y↔x=y:=by simp[eK,Id.eq_iff]
theorem zH2{ks ks':wC}{v:A}:∀(es:List (wC×A)),bN ks (lS ks' v es)=if ks'=ks then some v else bN ks es
 |[]=>by simp[lS,bN]
 |p::es=>by
  simp only[lS];by_cases h:p.1=ks'
  .simp only[h,if_true,bN];by_cases h':ks'=ks<;>simp[h']
  .simp only[h,if_false,bN];by_cases h':p.1=ks
   .simp only[h',if_true];have:¬ks'=ks:=fun e=>h (h'.trans e.symm)
    simp[this]
   .simp only[h',if_false,zH2 es]
theorem zM4(x:Id)(l:wG):bN (eK x) (rZ l)=if x∈l then some (.lit (.bool true))else none:=by
 induction l using fT with
 |nil=>simp[rZ,bN]
 |snoc l y ih =>
  rw[zDg,zH2,ih];by_cases h:y=x
  .subst h;simp
  .have:¬eK y=eK x:=fun e=>h (vT.1 e)
   have h':¬x=y:=fun e=>h e.symm
   simp[this,h']
theorem zSM(l:wG)(k:Nat):∀p∈rZ l,p.2.bnd k=true:=by
 induction l using fT with
 |nil=>simp[rZ]
 |snoc l y ih =>
  rw[zDg];have:∀es:List (wC×A),(∀p∈es,p.2.bnd k=true)->∀p∈lS (eK y) (.lit (.bool true)) es,p.2.bnd k=true:=by
   intro es;induction es with
   |nil=>intro _ p hp;simp[lS]at hp;subst hp;rfl
   |cons q es ih =>
    intro h p hp;simp only[lS]at hp;split at hp
    .rcases jA1.1 hp with rfl|hp
     .rfl
     .exact h p (jAk _ hp)
    .rcases jA1.1 hp with rfl|hp
     .exact h _ (jAm ..)
     .exact ih (fun p hp=>h p (jAk _ hp)) p hp
  exact this _ ih
variable{rf:Bool->Nat->Nat->A}{g:Nat->wD}
@[simp]theorem qJG(l:wG):((rZ l).map fun p=>(p.1,vw rf g p.2))=rZ l:=by
 have h:=zSM l 0;generalize rZ l=es at h;induction es with
 |nil=>rfl
 |cons p es ih =>
  rw[jAd,ih fun q hq=>h q (jAk _ hq),zD4 (k:=0) (fun l hl=>by omega) p.2 (h p (jAm ..))]
theorem zR2(l:wG)(x:Id):my 117 [.agg (zS x),.ptr 0 0] [.box [.map 1],.mp true 3 (rZ l)] (bl (decide (x∈l))) [.box [.map 1],.mp true 3 (rZ l)]:=by
 refine mq [] [.slot 3] func117 (by kernel_rfl) ?_
 (conv in kq _ _=>cbv)
 have hf:=zM4 x l;simp only[eK]at hf;simp[zS];have hr:uT (Value.bool false) false (bN [x.a,x.b,x.c] (rZ l))=.lit (.bool (decide (x∈l))):=by rw[hf];by_cases h:x∈l<;>simp[uT,h,zAk,jP]
 rw[hr];exact mv [0,1] 0 (by rfl) (by simp)
def zMI(l ids:wG):Int:=match ids.findIdx? (fun x=>decide (x∈l))with
 |some i=>i
 |none=>-1
theorem zK7(l ids:wG):decide (0<=zMI l ids)=ids.any fun x=>decide (x∈l):=by
 unfold zMI;cases h:ids.findIdx? (fun x=>decide (x∈l))with
 |none =>
  rw[List.findIdx?_eq_none_iff]at h;have:(ids.any fun x=>decide (x∈l))=false:=by rw[List.any_eq_false];exact fun x hx=>by simpa using h x hx
  rw[this];rfl
 |some i =>
  have h':=List.findIdx?_eq_some_iff_getElem.1 h;obtain⟨hi,h1,_⟩:=h';have:(ids.any fun x=>decide (x∈l))=true:=by rw[List.any_eq_true];exact⟨_,jA0 hi,h1⟩
  rw[this];simp
theorem zPN(l ids:wG):my 125 [.sl ids.length (zY ids),.clo 117 [] [.ptr 0 0]] [.box [.map 1],.mp true 3 (rZ l)] (int (zMI l ids)) [.box [.map 1],.mp true 3 (rZ l)]:=by
 refine mq [] [.slot 4] func125 (by kernel_rfl) ?_
 (conv in kq _ _=>cbv)
 simp;intro hl;refine qI (S:=Nat) (fun i=>[(0,.sl ids.length (zY ids)),(1,.clo 117 [] [.ptr 0 0]),(7,int ids.length),(8,int i)]) (fun i=>[.box [.map 1],.mp true 3 (rZ l)]) (fun i=>i<=ids.length/\∀x∈ids.take i,x∉l) (fun i=>ids.length-i) 0 (by simp)
  (mw [0,1] 0 (by rfl) (by simp)) ?_
 rintro i ⟨hi,hn⟩;by_cases h:i<ids.length
 .simp[h,jN h];refine mr (zR2 l ids[i]) [0,1] (by simp[zS]) ?_;simp;by_cases hx:ids[i]∈l
  .have:zMI l ids=i:=by
    unfold zMI;rw[List.findIdx?_eq_some_iff_getElem.2 ⟨h,by simpa using hx,fun j hj=>by
     have:=hn ids[j] (by rw[List.mem_take_iff_getElem];exact⟨j,by omega,rfl⟩)
     simpa using this⟩]
   simp[hx];exact mv [0,1] 0 (by rfl) (by simp[this])
  .simp[hx];exact zO (i+1) ⟨h,fun x hx'=>by
    rw[jA7 h]at hx';rcases jA6.1 hx' with hx'|hx'
    .exact hn x hx'
    .rw[jAi.1 hx'];exact hx⟩ (by omega) (mw [0,1] 0 (by rfl) (by simp[zZ h hl]))
 .have:i=ids.length:=by omega
  subst this;rw[jAs]at hn;have:zMI l ids = -1:=by unfold zMI;rw[List.findIdx?_eq_none_iff.2 fun x hx=>by simpa using hn x hx]
  simp;exact mv [0,1] 0 (by rfl) (by simp[this])
theorem zRO(l ids:wG):my 116 [.sl ids.length (zY ids),.clo 117 [] [.ptr 0 0]] [.box [.map 1],.mp true 3 (rZ l)] (bl (ids.any fun x=>decide (x∈l))) [.box [.map 1],.mp true 3 (rZ l)]:=by
 refine mq [] [.slot 4] func116 (by kernel_rfl) ?_
 (conv in kq _ _=>cbv)
 simp;refine mr (zPN l ids) [0,1] (by simp) ?_;simp;exact ke [0,1] 0 (by rfl) (by simp) (by rw[<-zK7];simp)
theorem zNM(t:Trc)(ids l:wG)(hl:l=t.defs++t.nodes)(h:l.length<=4000000000):my 53 [.agg (yY t),.sl ids.length (zY ids)] [] (bl (ids.any fun x=>decide (x∈l))) []:=by
 refine mq [] [.slot 4] func53 (by kernel_rfl) ?_
 (conv in kq _ _=>cbv)
 have e1:[t.defs,t.nodes].flatten=l:=by simp[hl]
 simp[yY];refine mu (sY [t.defs,t.nodes] (by rw[eI,e1];exact h)) (by simp[bX]) ?_;rw[eI,e1];simp;intro hlm;refine qI (S:=Nat) (fun i=>[(1,.sl ids.length (zY ids)),(5,.ptr 0 0),(14,.sl l.length (zY l)),(15,int l.length),(16,int i)]) (fun i=>[.box [.map 1],.mp true 3 (rZ (l.take i))]) (fun i=>i<=l.length) (fun i=>l.length-i) 0 (by simp)
  (mw [2,1] 0 (by rfl) (by simp[rZ])) ?_
 intro i hi;by_cases h:i<l.length
 .have hs:=zDg (l.take i) l[i];rw[<-jA7 h,eK]at hs;simp[h,jN h];rw[<-hs];exact zO (i+1) h (by omega) (mw [0,1] 0 (by rfl) (by simp[zZ h hlm]))
 .have:i=l.length:=by omega
  subst this;simp;refine mr (zRO l ids) [0,1] (by simp) ?_;simp;exact zB 0 (by simp)
def zS1:Nat->Option wE:=fun|2=>some [(3,1),(4,0),(0,0),(1,0),(2,0),(5,0),(6,0)]|_=>none
abbrev kx(f:Func)(h:Nat->Option wE)(k:K):Prop:=qK Tryz.prog f.ntmps h (f.body.getD .skip)=some k.erase
theorem mz{f:Func}{h:Nat->Option wE}{k:K}(e:qK Tryz.prog f.ntmps h (f.body.getD .skip)=some k.erase):kx f h k:=e
def atV(l:wC)(i most:Int):Int:=if i<0\/(l.length:Int)<=i then 0 else jY (l.getD i.toNat 0) most
theorem eZ(l:wC)(i most:Int)(hm:0<most):my 34 [.sl l.length (aQ l),int i,int most] [] (int (atV l i most)) []:=by
 refine mq [] [.slot 6] func34 (by kernel_rfl) ?_
 (conv in kq _ _=>cbv)
 by_cases h:i<0
 .simp[h];exact zB 0 (by simp[atV,h])
 by_cases h2:(l.length:Int)<=i
 .simp[h,h2];exact fun _=>zB 0 (by simp[atV,h2])
 .obtain⟨j,rfl⟩:∃j:Nat,i=j:=⟨i.toNat,by omega⟩;have hj:j<l.length:=by omega
  have hd:=zAe hj;simp[h,h2,hj,hd];intro _;refine mu (nW l[j] most hm) (by simp) ?_;simp;exact zB 0 (by simp[atV,hj,h,show ¬l.length<=j by omega])
theorem yZ{l:wC}{i most:Int}(hl:∀x∈l,w64 x=x)(hm:0<most):0<=atV l i most/\atV l i most<most:=by
 unfold atV;split
 .omega
 .rename_i h;have hj:i.toNat<l.length:=by omega
  rw[jC5,jA2 hj];exact cX (hl _ (jA0 hj)) hm
def idR(k:Int):Id:=⟨0,IntKind.i64.wrap (1+IntKind.i64.wrap (k.tdiv 32)),k.tmod 32⟩
theorem uL(k:Int):my 35 [int k] [] (.agg (zS (idR k))) []:=by
 refine mq [] [.cell 2 3 true] func35 (by kernel_rfl) ?_
 (conv in kq _ _=>cbv)
 simp;exact zB 0 (by simp[zS,idR])
theorem zHW(d:Id):my 81 [.agg (zS d)] [] (.agg (zF (.mk 3 d []))) []:=by
 refine mq [] [.cell 2 5 true] func81 (by kernel_rfl) ?_
 (conv in kq _ _=>cbv)
 simp[zS];exact zB 0 (by simp[zF])
theorem zVi(t:Typ):my 83 [.agg (zF t)] [] (.agg (zF (.mk 2 ⟨0,0,0⟩ [t]))) []:=by
 refine mq [] [.cell 2 5 true] func83 (by kernel_rfl) ?_
 (conv in kq _ _=>cbv)
 simp[zF];exact zB 0 (by simp[zF,qX])
mutual
theorem oH:∀(a b:Typ),my 152 [.agg (zF a),.agg (zF b)] [] (bl (yT a b)) []
 | .mk k i l,b=>by
  have ih:=zGu l;generalize ha:Typ.mk k i l=a;have hal:a.kids=l:=by rw[<-ha];rfl
  rw[<-hal]at ih;refine mq [] [.slot 4] func152 (by kernel_rfl) ?_
  (conv in kq _ _=>cbv)
  have hd:=zIh a b;by_cases h1:a.k=b.k
  .by_cases h2:a.id=b.id
   .by_cases h3:a.kids.length=b.kids.length
    .simp[zF,h1,h2,h3];intro hl;refine qI (S:=Nat) (fun j=>[(2,.ptr 0 0),(3,.ptr 1 0),(5,int j)]) (fun _=>[.box (zF a),.box (zF b)]) (fun j=>j<=a.kids.length/\∀(m:Nat) (hm:m<j) (hma:m<a.kids.length) (hmb:m<b.kids.length),yT a.kids[m] b.kids[m]=true) (fun j=>a.kids.length-j) 0 (by simp)
      (mw [0,1] 0 (by rfl) (by simp[zF,h1,h2,h3])) ?_
     rintro j ⟨hj,hs⟩;by_cases h:j<a.kids.length
     .have hb:j<b.kids.length:=by omega
      simp[zF,h,iG h,iG hb,hb];intro hl';refine qC (ih a.kids[j] (jA0 h) b.kids[j]) (by simp[zF]) (by simp) ?_;cases hab:yT a.kids[j] b.kids[j]
      .have:bM yT a.kids b.kids=false:=by rw[<-jCc,iO h3];intro hh;have:=hh j h;rw[hab]at this;cases this
       simp;exact zB 0 (by simp[hd,this])
      .simp;exact zO (j+1) ⟨h,fun m hm hma hmb=>by
        by_cases e:m=j
        .subst e;exact hab
        .exact hs m (by omega) hma hmb⟩ (by omega) (mw [0,1] 0 (by rfl) (by simp[zF,zZ h (show a.kids.length<=maxLen by omega)]))
     .have hj':j=a.kids.length:=by omega
      have:bM yT a.kids b.kids=true:=(iO h3).2 fun m hm=>hs m (by omega) hm (by omega)
      simp[zF,h]
      first|exact fun _=>zB 0 (by simp[hd,h1,h2,this])|exact zB 0 (by simp[hd,h1,h2,this])
    .have h4:=uX (same:=yT) h3;have h5:¬((a.kids.length:Int)=b.kids.length):=by omega
     simp[zF,h1,h2,h3,h5]
     first|exact fun _ _=>zB 0 (by simp[hd,h4])|exact fun _=>zB 0 (by simp[hd,h4])|exact zB 0 (by simp[hd,h4])
   .have h3:iJ a.id.a a.id.b a.id.c b.id.a b.id.b b.id.c=false:=by rw[eC];exact decide_eq_false h2
    simp[zF,h1,h3];exact zB 0 (by simp[hd,h2])
  .simp[zF,h1];exact zB 0 (by simp[hd,h1])
theorem zGu:∀(l:wT),∀x∈l,∀y:Typ,my 152 [.agg (zF x),.agg (zF y)] [] (bl (yT x y)) []
 |[],x,hx,_=>by simp at hx
 |z::l,x,hx,y=>by
  rcases jA1.1 hx with e|hx
  .rw[e];exact oH z y
  .exact zGu l x hx y
end
structure Mk where
 mods:List Md
 defs:List Dfn
 l:List Int
 at_:Int
 temp:Int
 left:Int
 own:Int
 home:Id
 name:Int
def mkB(m:Mk):wF:=[.sl m.mods.length (qA m.mods),.row 1 m.defs.length,.sl m.l.length (aQ m.l),int m.at_,int m.temp,int m.left,int m.own,int m.home.a,int m.home.b,int m.home.c,int m.name]
def mkS(m:Mk):St:=[.box (mkB m),.row false 42 31 m.defs.length (zQ m.defs)]
theorem zSX(m:Mk)(n:Int)(hn:0<n)(h0:0<=m.at_)(h1:m.at_<=1000000000000000) :
 my 85 [.ptr 0 0,int n] (mkS m) (int (atV m.l m.at_ n)) (mkS {m with at_:=m.at_+1}):=by
 refine mq [] [.slot 4] func85 (by kernel_rfl) ?_
 (conv in kq _ _=>cbv)
 have w1:=qF (m.at_+1) (by omega);have w2:=qF m.at_ (by omega);simp[mkS,mkB,w1,w2];refine qC (eZ m.l m.at_ n hn) (by simp) (by simp) ?_;simp;exact mv [0,1] 0 (by rfl) (by simp)
theorem aO(m:Mk)(kind n:Int)(kids:wH)(h0:0<=m.temp)(h1:m.temp<=1000000000000000)(h2 : -1000000000000000<=m.left)(h3:m.left<=1000000000000000) :
 my 89 [.ptr 0 0,int kind,int n,.sl kids.length (qM kids)] (mkS m) (.agg (zG (.mk ⟨0,0,m.temp⟩ kind n Id.zero Typ.zero kids []))) (mkS {m with temp:=m.temp+1,left:=m.left-1}):=by
 refine mq [] [.cell 8 15 true] func89 (by kernel_rfl) ?_
 (conv in kq _ _=>cbv)
 have w1:=qF (m.temp+1) (by omega);have w2:=qF m.temp (by omega);have w3:=qF (m.left-1) (by omega);simp[mkS,mkB,w1,w2,w3];exact mv [0,1] 0 (by rfl) (by simp[zG,Typ.zero,Id.zero,Typ.kids,Typ.k,Typ.id])
def scA:List EVar->A
 |[]=>.lit (.pointer none)
 |b::l=>.rptr (pL b++[scA l])
@[simp]theorem qKa:scA []=.lit (.pointer none):=rfl
theorem xF(b:EVar)(l:wP):scA (b::l)=.rptr [.lit (.int .i64 b.id.a),.lit (.int .i64 b.id.b),.lit (.int .i64 b.id.c),.lit (.int .i64 b.n),.lit (.int .i64 b.v.k),.lit (.int .i64 b.v.n),.sl b.v.kids.length (zT b.v.kids),scA l]:=rfl
@[simp]theorem zSW:∀l:wP,nrm0 (scA l)=scA l
 |[]=>rfl
 |b::l=>by simp[xF,zSW l]
@[simp]theorem qAs{rf:Bool->Nat->Nat->A}{g:Nat->wD}:∀l:wP,vw rf g (scA l)=scA l
 |[]=>rfl
 |b::l=>by simp[xF,qAs l]
@[simp]theorem zWN(l:wP):cellsOf (scA l)=some [scA l]:=by cases l<;>rfl
abbrev scE(V:wP):A:=scA V.reverse
@[simp]theorem qKb:scE []=.lit (.pointer none):=rfl
@[simp]theorem qHu(V:wP)(b:EVar):scE (V++[b])=scA (b::V.reverse):=by simp[scE]
@[simp]theorem qBN(V:wP)(a b:EVar):scE (V++[a,b])=scA (b::a::V.reverse):=by simp[scE]
def zDU(l:wP)(id:Id)(n:Int):Val:=((l.find? fun b=>decide (b.id=id/\b.n=n)).map EVar.v).getD (.mk 0 0 [])
theorem zM5(b:EVar)(l:wP)(id:Id)(n:Int):zDU (b::l) id n=if b.id=id/\b.n=n then b.v else zDU l id n:=by unfold zDU;rw[jC4];by_cases h:b.id=id/\b.n=n<;>simp[h]
def zTn(a b c n a' b' c' n':Int):Bool:=decide (Id.mk a b c=Id.mk a' b' c'/\n=n')
@[simp]theorem qHt{y:Id}{n m:Int}:zTn x.a x.b x.c n y.a y.b y.c m=decide (x=y/\n=m):=rfl
@[simp]theorem qF5{a b c n a' b' c' n':Int}:zCW [.i,.i,.i,.i] false (.agg [.lit (.int .i64 a),.lit (.int .i64 b),.lit (.int .i64 c),.lit (.int .i64 n)]) (.agg [.lit (.int .i64 a'),.lit (.int .i64 b'),.lit (.int .i64 c'),.lit (.int .i64 n')]) =
 some (.lit (.bool (zTn a b c n a' b' c' n'))):=by simp[zCW,yP,fX,dE,and_assoc,zTn]
@[simp]theorem qMh:zA prog 218=true:=by kernel_rfl
theorem zRZ(l:wP)(id:Id)(n:Int):my 218 [scA l,.agg [int id.a,int id.b,int id.c,int n]] [] (.agg (zN (zDU l id n))) []:=by
 refine mq [] [.cell 4 3 true] func218 (by kernel_rfl) ?_
 (conv in kq _ _=>cbv)
 simp;refine qI (S:=wP) (fun s=>[(0,scA s),(3,.ptr 0 0),(4,.ptr 1 0)]) (fun _=>[.box [int id.a,int id.b,int id.c,int n],.box [int 0,int 0,.nil]])
  (fun s=>zDU l id n=zDU s id n) (fun s=>s.length) l rfl (mw [0,1] 0 (by rfl) (by simp)) ?_
 intro s hs;cases s with
 |nil =>
  simp;exact zB 0 (by rw[hs];simp[zDU,zN,Val.k,Val.n,Val.kids])
 |cons b s =>
  rw[zM5]at hs;by_cases h:b.id=id/\b.n=n
  .rw[if_pos h]at hs;obtain⟨rfl,rfl⟩:=h;simp[xF];exact zB 0 (by rw[hs];simp[zN])
  .rw[if_neg h]at hs;have hd:decide (b.id=id/\b.n=n)=false:=by simpa using h
   simp[xF,hd,-Bool.decide_and];exact zO s hs (by simp) (mw [0,1] 0 (by rfl) (by simp))
theorem iS(l:wP)(b:EVar):my 150 [scA l,.agg (zS b.id),int b.n,.agg (zN b.v)] [] (scA (b::l)) []:=by
 refine mq [] [.slot 8] func150 (by kernel_rfl) ?_
 (conv in kq _ _=>cbv)
 simp[zS,zN];exact zB 1 (by simp[xF])
theorem zCT(v:Val):my 196 [.agg (zN v)] [] (int (mW v)) []:=by
 refine mq [] [.slot 2] func196 (by kernel_rfl) ?_
 (conv in kq _ _=>cbv)
 simp[zN];intro hl;refine qI (S:=Nat) (fun i=>[(3,int (zJc (v.kids.take i))),(7,.sl v.kids.length (zT v.kids)),(8,int v.kids.length),(9,int i)]) (fun s=>[]) (fun i=>i<=v.kids.length) (fun i=>v.kids.length-i) 0 (by simp)
  (mw [] 0 (by rfl) (by simp[zJc])) ?_
 intro i hi;simp;by_cases h:i<v.kids.length
 .simp[h,jE h];refine mu (zCT v.kids[i]) (by simp[zN]) ?_;simp;exact zO (i+1) h (by omega) (mw [] 0 (by rfl) (by simp[zZ h hl,zHO h,zQd]))
 .have:i=v.kids.length:=by omega
  subst this;simp;exact zB 0 (by simp[zHy v,w64])
termination_by qY v
decreasing_by exact cV (jA0 _)
@[simp]theorem qI6:zA prog 216=true:=by kernel_rfl
@[simp]theorem qAH:zA prog 223=true:=by kernel_rfl
@[simp]theorem qJc:zA prog 232=true:=by kernel_rfl
@[simp]theorem qM7:zA prog 220=true:=by kernel_rfl
@[simp]theorem qFd:zA prog 217=true:=by kernel_rfl
def zE:wF:=[.lit (.int .i64 0),.lit (.int .i64 0),.lit (.int .i64 0),.lit (.int .i64 0),.lit (.int .i64 0),.lit (.int .i64 0),.lit (.int .i64 0),.lit (.int .i64 0),.lit (.int .i64 0),.lit (.int .i64 0),.lit (.int .i64 0),.lit (.int .i64 0),.nil,.nil,.nil]
def zD:wF:=[.lit (.int .i64 0),.lit (.int .i64 0),.lit (.int .i64 0),.lit (.int .i64 0),.lit (.int .i64 0),.lit (.int .i64 0),.lit (.int .i64 0),.lit (.string ⟨#[]⟩),.nil,.lit (.int .i64 0),.lit (.int .i64 0),.lit (.int .i64 0),.lit (.int .i64 0),.nil,.lit (.int .i64 0),.lit (.int .i64 0),.lit (.int .i64 0),.lit (.int .i64 0),.lit (.int .i64 0),.lit (.int .i64 0),.lit (.int .i64 0),.lit (.int .i64 0),.lit (.int .i64 0),.lit (.int .i64 0),.lit (.int .i64 0),.lit (.int .i64 0),.nil,.nil,.nil,.lit (.int .i64 0),.nil]
@[simp]theorem qBg{z:Value}{a:A}:uT z true (some a)=.tup [a,.lit (.bool true)]:=rfl
@[simp]theorem zZn:uT (.agg #[(.int .i64 0),(.int .i64 0),(.int .i64 0),(.int .i64 0),(.int .i64 0),(.int .i64 0),(.int .i64 0),(.int .i64 0),(.int .i64 0),(.int .i64 0),(.int .i64 0),(.int .i64 0),(.slice none 0 0),(.slice none 0 0),(.slice none 0 0)]) true none=.tup [.agg zE,.lit (.bool false)]:=by kernel_rfl
@[simp]theorem zZm:uT (.agg #[(.int .i64 0),(.int .i64 0),(.int .i64 0),(.int .i64 0),(.int .i64 0),(.int .i64 0),(.int .i64 0),(.string ⟨#[]⟩),(.slice none 0 0),(.int .i64 0),(.int .i64 0),(.int .i64 0),(.int .i64 0),(.slice none 0 0),(.int .i64 0),(.int .i64 0),(.int .i64 0),(.int .i64 0),(.int .i64 0),(.int .i64 0),(.int .i64 0),(.int .i64 0),(.int .i64 0),(.int .i64 0),(.int .i64 0),(.int .i64 0),(.slice none 0 0),(.slice none 0 0),(.slice none 0 0),(.int .i64 0),(.slice none 0 0)]) true none=.tup [.agg zD,.lit (.bool false)]:=by kernel_rfl
@[simp]theorem qO0:zE.length=15:=rfl
@[simp]theorem qOz:zD.length=31:=rfl
def fM{α:Type}(idf : α->Id)(enc : α->wF)(l:List α):List (wC×A):=l.map fun x=>(eK (idf x),.agg (enc x))
def aH{α:Type}(idf : α->Id)(l:List α)(i:Id):Option α:=l.find? fun x=>decide (idf x=i)
theorem hU{α:Type}{idf : α->Id}{enc : α->wF}{i:Id}:∀(l:List α),bN (eK i) (fM idf enc l)=(aH idf l i).map fun x=>.agg (enc x)
 |[]=>rfl
 |x::l=>by
  simp only[fM,jAd,bN,aH,jC4];by_cases h:idf x=i
  .simp[h]
  .have h':¬eK (idf x)=eK i:=fun e=>h (vT.1 e)
   simp only[h',if_false,h,decide_false];exact hU l
theorem zDv{α:Type}{idf : α->Id}{enc : α->wF}{x : α}:∀(l:List α),aH idf l (idf x)=none->lS (eK (idf x)) (.agg (enc x)) (fM idf enc l)=fM idf enc (l++[x])
 |[],_=>rfl
 |y::l,h=>by
  simp only[aH,jC4]at h;split at h
  .cases h
  .rename_i hy;have h':¬eK (idf y)=eK (idf x):=fun e=>by have:=vT.1 e;simp[this]at hy
   simp only[fM,jAd,lS,h',if_false,jBe]
   congr 1
   exact zDv l h
@[simp]theorem zOu{α:Type}{idf : α->Id}{enc : α->wF}(hp:∀x,j4 (enc x))(l:List α):((fM idf enc l).map fun p=>(p.1,vw rf g p.2))=fM idf enc l:=by
 simp only[fM,jBy];refine jCa fun x _=>?_
 simp[(hp x).2]
@[simp]theorem qJF(l:wH):((fM Exp.id zG l).map fun p=>(p.1,vw rf g p.2))=fM Exp.id zG l:=zOu zAR l
@[simp]theorem qJE(l:wS):((fM Dfn.id zJ l).map fun p=>(p.1,vw rf g p.2))=fM Dfn.id zJ l:=zOu s7 l
def c7{α:Type}(idf : α->Id)(l:List α)(x : α):List α:=if (aH idf l (idf x)).isSome then l else l++[x]
mutual
def zHh:Exp->List Exp->wH
 | .mk i k n r t l nm,N=>nB l (c7 Exp.id N (.mk i k n r t l nm))
def nB:List Exp->List Exp->wH
 |[],N=>N
 |e::l,N=>nB l (zHh e N)
end
theorem zLL(e:Exp)(N:wH):zHh e N=nB e.kids (c7 Exp.id N e):=by cases e;simp only[zHh,Exp.kids]
theorem zBx(x:Exp):∀(l:wH) (N:wH),nB (l++[x]) N=zHh x (nB l N)
 |[],N=>by simp only[jBk,nB]
 |e::l,N=>by simp only[jBe,nB,zBx x l]
def gQ(D:wS)(N:wH):St:=[.box [.map 2,.map 3],.box [.clo 126 [] [.ptr 0 0,.ptr 1 0]],.mp true 3 (fM Dfn.id zJ D),.mp true 3 (fM Exp.id zG N)]
mutual
theorem zGE:∀(e:Exp) (D:wS) (N:wH),my 126 [.agg (zG e),.ptr 0 0,.ptr 1 0] (gQ D N) (.tup []) (gQ D (zHh e N))
 | .mk i k n r t l nm,D,N=>by
  have ih:=zIw l;generalize ha:Exp.mk i k n r t l nm=e;have hal:e.kids=l:=by rw[<-ha];rfl
  rw[<-hal]at ih;refine mq [] [] func126 (by kernel_rfl) ?_
  (conv in kq _ _=>cbv)
  have hf:=hU (i:=e.id) (enc:=zG) (idf:=Exp.id) N;simp only[eK]at hf;cases hh:aH Exp.id N e.id with
  |some x =>
   rw[hh]at hf;simp only[jBz]at hf;have hins:c7 Exp.id N e=N:=by simp[c7,hh]
   simp[gQ,zG,hf];intro hl;refine qI (S:=Nat) (fun i=>[(1,.ptr 0 0),(2,.ptr 1 0),(24,.sl e.kids.length (qM e.kids)),(25,int e.kids.length),(26,int i)]) (fun i=>gQ D (nB (e.kids.take i) (c7 Exp.id N e))) (fun i=>i<=e.kids.length) (fun i=>e.kids.length-i) 0 (by simp)
    (mw [0,1,2,3] 0 (by rfl) (by simp[gQ,nB,hins])) ?_
   intro i hi;by_cases h:i<e.kids.length
   .have hlt:i*15<e.kids.length*15:=by omega
    have hsn:=zBx e.kids[i] (e.kids.take i) (c7 Exp.id N e);rw[<-jA7 h]at hsn;simp[gQ,h,yB h,zG];refine mr (ih e.kids[i] (jA0 h) D (nB (e.kids.take i) (c7 Exp.id N e))) [0,1,2,3] (by simp[gQ,zG]) ?_;simp[gQ];exact zO (i+1) h (by omega) (mw [0,1,2,3] 0 (by rfl) (by simp[gQ,hsn,zZ h hl]))
   .have hil:i=e.kids.length:=by omega
    subst hil;rw[jAs,<-zLL];simp[gQ];exact mv [0,1,2,3] 0 (by rfl) (by simp)
  |none =>
   rw[hh]at hf;simp only[jD2]at hf;have hp:=zDv (enc:=zG) (idf:=Exp.id) (x:=e) N hh;simp only[eK]at hp;have hins:c7 Exp.id N e=N++[e]:=by simp[c7,hh]
   simp only[zG]at hp;simp[gQ,zG,hf,hp];intro hl;refine qI (S:=Nat) (fun i=>[(1,.ptr 0 0),(2,.ptr 1 0),(24,.sl e.kids.length (qM e.kids)),(25,int e.kids.length),(26,int i)]) (fun i=>gQ D (nB (e.kids.take i) (c7 Exp.id N e))) (fun i=>i<=e.kids.length) (fun i=>e.kids.length-i) 0 (by simp)
    (mw [0,1,2,3] 0 (by rfl) (by simp[gQ,nB,hins])) ?_
   intro i hi;by_cases h:i<e.kids.length
   .have hlt:i*15<e.kids.length*15:=by omega
    have hsn:=zBx e.kids[i] (e.kids.take i) (c7 Exp.id N e);rw[<-jA7 h]at hsn;simp[gQ,h,yB h,zG];refine mr (ih e.kids[i] (jA0 h) D (nB (e.kids.take i) (c7 Exp.id N e))) [0,1,2,3] (by simp[gQ,zG]) ?_;simp[gQ];exact zO (i+1) h (by omega) (mw [0,1,2,3] 0 (by rfl) (by simp[gQ,hsn,zZ h hl]))
   .have hil:i=e.kids.length:=by omega
    subst hil;rw[jAs,<-zLL];simp[gQ];exact mv [0,1,2,3] 0 (by rfl) (by simp)
theorem zIw:∀(l:wH),∀x∈l,∀(D:wS) (N:wH),my 126 [.agg (zG x),.ptr 0 0,.ptr 1 0] (gQ D N) (.tup []) (gQ D (zHh x N))
 |[],x,hx,_,_=>by simp at hx
 |z::l,x,hx,D,N=>by
  rcases jA1.1 hx with e|hx
  .rw[e];exact zGE z D N
  .exact zIw l x hx D N
end
def oP(l:wS):wS:=l.foldl (c7 Dfn.id) []
def zKR(N:wH)(d:Dfn):wH:=if dU d.kind then zHh d.body N else N
def rG(l:wS):wH:=l.foldl zKR []
theorem zP5{l:wS}(h:i<l.length):oP (l.take (i+1))=c7 Dfn.id (oP (l.take i)) l[i]:=by rw[oP,jA7 h,jBv];rfl
theorem zQj{l:wS}(h:i<l.length):rG (l.take (i+1))=zKR (rG (l.take i)) l[i]:=by rw[rG,jA7 h,jBv];rfl
theorem zOA(p:Prg):my 60 [.agg (zI p)] [] (.agg [.map 0,.map 1]) [.mp true 3 (fM Dfn.id zJ (oP p.defs)),.mp true 3 (fM Exp.id zG (rG p.defs))]:=by
 refine mq [] [.cell 2 2 true] func60 (by kernel_rfl) ?_
 (conv in kq _ _=>cbv)
 simp[zI];intro hl;generalize p.defs=l at hl ⊢;refine qI (S:=Nat) (fun i=>[(2,.ptr 4 0),(3,.ptr 0 0),(4,.ptr 1 0),(14,.sl l.length (zQ l)),(15,int l.length),(16,int i)]) (fun i=>gQ (oP (l.take i)) (rG (l.take i))++[.box [.lit (.map none),.lit (.map none)]]) (fun i=>i<=l.length) (fun i=>l.length-i) 0 (by simp)
  (mw [4,5,2,3,1] 0 (by rfl) (by simp[gQ,oP,rG,fM])) ?_
 intro i hi;by_cases h:i<l.length
 .have hlt:i*31<l.length*31:=by omega
  have h1:=zP5 h;have h2:=zQj h;generalize oP (l.take i)=D at h1 ⊢;generalize rG (l.take i)=N at h2 ⊢;generalize hd:l[i]=d at h1 h2;have hcd:=yA h;rw[hd]at hcd;have hf:=hU (i:=d.id) (enc:=zJ) (idf:=Dfn.id) D;simp only[eK]at hf;cases hh:aH Dfn.id D d.id with
  |some x =>
   rw[hh]at hf;simp only[jBz]at hf;have hins:c7 Dfn.id D d=D:=by simp[c7,hh]
   rw[hins]at h1;simp[gQ,h,hcd,zJ,hf];refine mu (xV d) (by simp[zJ]) ?_;cases hb:dU d.kind with
   |true =>
    rw[zKR,if_pos hb]at h2;simp;refine mr (zGE d.body D N) [0,1,2,3] (by simp[gQ,zG]) ?_;simp[gQ];exact zO (i+1) h (by omega) (mw [0,1,2,3,4] 0 (by rfl) (by simp[gQ,h1,h2,zZ h hl]))
   |false =>
    rw[zKR,if_neg (by simp[hb])]at h2;simp;exact zO (i+1) h (by omega) (mw [0,1,2,3,4] 0 (by rfl) (by simp[gQ,h1,h2,zZ h hl]))
  |none =>
   rw[hh]at hf;simp only[jD2]at hf;have hp:=zDv (enc:=zJ) (idf:=Dfn.id) (x:=d) D hh;simp only[eK,zJ]at hp;have hins:c7 Dfn.id D d=D++[d]:=by simp[c7,hh]
   rw[hins]at h1;simp[gQ,h,hcd,zJ,hf,hp];refine mu (xV d) (by simp[zJ]) ?_;cases hb:dU d.kind with
   |true =>
    rw[zKR,if_pos hb]at h2;simp;refine mr (zGE d.body (D++[d]) N) [0,1,2,3] (by simp[gQ,zG]) ?_;simp[gQ];exact zO (i+1) h (by omega) (mw [0,1,2,3,4] 0 (by rfl) (by simp[gQ,h1,h2,zZ h hl]))
   |false =>
    rw[zKR,if_neg (by simp[hb])]at h2;simp;exact zO (i+1) h (by omega) (mw [0,1,2,3,4] 0 (by rfl) (by simp[gQ,h1,h2,zZ h hl]))
 .have hil:i=l.length:=by omega
  subst hil;simp[gQ];exact mv [2,3] 0 (by rfl) (by simp)
structure Bnd where
 id:Id
 n:Int
 typ:Typ
abbrev wJ:=List Bnd
def cQ(b:Bnd):wF:=[.lit (.int .i64 b.id.a),.lit (.int .i64 b.id.b),.lit (.int .i64 b.id.c),.lit (.int .i64 b.n),.lit (.int .i64 b.typ.k),.lit (.int .i64 b.typ.id.a),.lit (.int .i64 b.typ.id.b),.lit (.int .i64 b.typ.id.c),.sl b.typ.kids.length (jM b.typ.kids)]
theorem zAQ(b:Bnd):j4 (cQ b):=by have h1:=yW b.typ.kids;exact⟨by simp[cQ,h1.1],fun rf g=>by simp[cQ,h1.2]⟩
def z6(l:wJ):wF:=l.flatMap cQ
theorem zBA(l:wJ):j4 (z6 l):=dJ zAQ l
@[simp]theorem zXm(l:wJ):jV (z6 l)=z6 l:=(zBA l).1
@[simp]theorem qCc{rf g}(l:wJ):vwL rf g (z6 l)=z6 l:=(zBA l).2 _ _
@[simp]theorem zY4:z6 []=[]:=rfl
theorem zDJ(x:Bnd)(l:wJ):z6 (x::l)=cQ x++z6 l:=rfl
theorem zA0(l l':wJ):z6 (l++l')=z6 l++z6 l':=by simp only[z6,jCd]
@[simp]theorem zY3(l:wJ):(z6 l).length=l.length*9:=by rw[z6,fA (k:=9) (fun _=>rfl)]
theorem iD{l:wJ}(h:i<l.length):(z6 l).drop (i*9)=cQ l[i]++z6 (l.drop (i+1)):=by rw[z6,z6,gH (k:=9) (fun _=>rfl) h]
theorem zCG{l:wJ}(h:i<l.length):z6 (l.take (i+1))=z6 (l.take i)++cQ l[i]:=by rw[z6,z6,iU (k:=9) (fun _=>rfl) h]
@[simp]theorem qFo(d:Bnd):(cQ d).length=9:=rfl
@[simp]theorem qFn(d:Bnd):(cQ d).take 9=cQ d:=jAl (jA _)
@[simp]theorem qAQ(d:Bnd)(l:wF):(cQ d++l).take 9=cQ d:=by rw[jCe (by simp)];exact jAl (by simp)
@[simp]theorem qBx(d:Bnd):jV (cQ d)=cQ d:=(zAQ d).1
@[simp]theorem qKp(d:Bnd) {rf g}:vwL rf g (cQ d)=cQ d:=(zAQ d).2 _ _
theorem tmN{x k:Int}(h:0<=x):x.tmod k=x % k:=Int.tmod_eq_emod_of_nonneg h
theorem tdN{x k:Int}(h:0<=x):x.tdiv k=x / k:=Int.tdiv_eq_ediv_of_nonneg h
theorem zEB(m:Mk)(h0:0<=m.name)(h1:m.name<=1000000000000000) :
 ∃s:ByteArray,my 90 [.ptr 0 0] (mkS m) (.lit (.string s)) (mkS {m with name:=m.name+1}):=by
 have w1:=qF (m.name+1) (by omega);have e1:(m.name+1).tmod 3=(m.name+1) % 3:=tmN (by omega);have e2:(m.name+1).tdiv 3=(m.name+1) / 3:=tdN (by omega);have e3:((m.name+1).tdiv 3).tmod 8=((m.name+1) / 3) % 8:=by rw[e2];exact tmN (by omega)
 have w2:IntKind.i64.wrap ((m.name+1).tdiv 3)=(m.name+1).tdiv 3:=IntWalk.i64_in _ (by rw[e2];omega);have a0:0<=(m.name+1).tmod 3:=by omega
 have a1:(m.name+1).tmod 3<3:=by omega
 have b0:0<=((m.name+1).tdiv 3).tmod 8:=by omega
 have b1:((m.name+1).tdiv 3).tmod 8<8:=by omega
 have hA:∃s1 rest,s1.size<=10/\List.drop ((m.name+1).tmod 3).toNat [A.lit (.string ⟨#[117]⟩),A.lit (.string ⟨#[118]⟩),A.lit (.string ⟨#[119]⟩)]=A.lit (.string s1)::rest:=by
  have:((m.name+1).tmod 3).toNat=0\/((m.name+1).tmod 3).toNat=1\/((m.name+1).tmod 3).toNat=2:=by omega
  rcases this with e|e|e<;>rw[e]<;>exact⟨_,_,by decide,rfl⟩
 have hB:∃s1 rest,s1.size<=10/\List.drop (((m.name+1).tdiv 3).tmod 8).toNat [A.lit (.string ⟨#[]⟩),A.lit (.string ⟨#[49]⟩),A.lit (.string ⟨#[50]⟩),A.lit (.string ⟨#[51]⟩),A.lit (.string ⟨#[52]⟩),A.lit (.string ⟨#[53]⟩),A.lit (.string ⟨#[54]⟩),A.lit (.string ⟨#[55]⟩)]=A.lit (.string s1)::rest:=by
  generalize ((m.name+1).tdiv 3).tmod 8=b at b0 b1;have:b.toNat=0\/b.toNat=1\/b.toNat=2\/b.toNat=3\/b.toNat=4\/b.toNat=5\/b.toNat=6\/b.toNat=7:=by omega
  rcases this with e|e|e|e|e|e|e|e<;>rw[e]<;>exact⟨_,_,by decide,rfl⟩
 obtain⟨sa,ra,hsa,hA⟩:=hA;obtain⟨sb,rb,hsb,hB⟩:=hB;refine⟨sa++sb,?_⟩;refine mq [] [.slot 2] func90 (by kernel_rfl) ?_
 (conv in kq _ _=>cbv)
 have h3:((m.name+1).tmod 3).toNat<3:=by omega
 have h8:(((m.name+1).tdiv 3).tmod 8).toNat<8:=by omega
 simp[mkS,mkB,w1,w2,hA,hB,a0,a1,b0,b1,h3,h8];refine⟨by omega,?_⟩;exact mv [0,1] 0 (by rfl) (by simp)
theorem zTL(m:Mk)(b:Bnd)(h0:0<=m.temp)(h1:m.temp<=1000000000000000)(h2 : -1000000000000000<=m.left)(h3:m.left<=1000000000000000) :
 my 87 [.ptr 0 0,.agg (cQ b)] (mkS m) (.agg (zG (.mk ⟨0,0,m.temp⟩ 2 b.n b.id Typ.zero [] []))) (mkS {m with temp:=m.temp+1,left:=m.left-1}):=by
 refine mq [] [.cell 4 15 true] func87 (by kernel_rfl) ?_
 (conv in kq _ _=>cbv)
 simp[mkS,mkB,cQ];refine mr (aO m 2 b.n [] h0 h1 h2 h3) [0,1] (by simp[mkS,mkB]) ?_;simp[mkS,mkB,zG];exact mv [0,1] 0 (by rfl) (by simp)
theorem zF2(env:wJ)(t:Typ)(hE:env.length<=1000000):my 86 [.sl env.length (z6 env),.agg (zF t)] [] (.sl (env.filter fun b=>yT b.typ t).length (z6 (env.filter fun b=>yT b.typ t))) []:=by
 refine mq [] [.slot 4] func86 (by kernel_rfl) ?_
 (conv in kq _ _=>cbv)
 simp[zF];refine qI (S:=Nat) (fun i=>[(0,.sl env.length (z6 env)),(3,.ptr 0 0),(5,.row 1 ((env.take i).filter fun b=>yT b.typ t).length),(6,int i)]) (fun i=>[.box (zF t),.row false 101 9 ((env.take i).filter fun b=>yT b.typ t).length (z6 ((env.take i).filter fun b=>yT b.typ t))]) (fun i=>i<=env.length) (fun i=>env.length-i) 0 (by simp)
  ((jS (t:=5) (by simp) 101 9).trans (mw [0,1] 0 (by rfl) (by simp[zF]))) ?_
 intro i hi;by_cases h:i<env.length
 .simp[h,iD h,cQ,zF];intro hl;refine qC (oH env[i].typ t) (by simp[zF]) (by simp) ?_;have hst:((env.take (i+1)).filter fun b=>yT b.typ t)=((env.take i).filter fun b=>yT b.typ t)++(if yT env[i].typ t then [env[i]]else []):=by rw[jA7 h,jCw];cases hs:yT env[i].typ t<;>simp[hs]
  cases hs:yT env[i].typ t
  .simp;rw[hs]at hst;simp only[jAg,if_false,jAt]at hst;exact zO (i+1) h (by omega) (mw [0,1] 0 (by rfl) (by simp[zF,hst,zZ h hl]))
  .simp[h,iD h,cQ];rw[hs]at hst;simp only[if_true]at hst;have hle:((env.take i).filter fun b=>yT b.typ t).length<=i:=jAz (jBp _ _) (by simp;omega);refine⟨⟨by simp[maxLen];omega,by omega⟩,?_⟩;exact zO (i+1) h (by omega) (mw [0,1] 0 (by rfl) (by simp[zF,hst,zA0,zDJ,cQ,zZ h hl]))
 .have:i=env.length:=by omega
  subst this;simp;exact fun _=>zB 1 (by simp)
theorem mI(env:wJ)(b:Bnd)(hE:env.length<=1000000):my 91 [.sl env.length (z6 env),.agg (cQ b)] [] (.sl (env.length+1) (z6 (env++[b]))) []:=by
 refine mn zS1 [] [.slot 4] func91 (by kernel_rfl) ?_
 (conv in zV _ _ _ _=>cbv)
 simp[cQ];exact⟨⟨by simp[maxLen];omega,by omega⟩,⟨by simp[maxLen];omega,by omega⟩,zB 1 (by simp[zA0,zDJ,cQ])⟩
def zHf(ds:wS):St:=[.row false 42 31 ds.length (zQ ds)]
def zAt(ds:wS)(i:Id):Dfn×Bool:=match ds.find? fun d=>decide (d.id=i)with
 |some d=>(d,true)
 |none=>(Dfn.zero,false)
theorem zCX{ds:wS}(h:i<ds.length)(hn:∀d∈ds.take i,d.id≠x)(he:ds[i].id=x):(ds.find? fun d=>decide (d.id=x))=some ds[i]:=by
 have e:ds=ds.take i++ds[i]::ds.drop (i+1):=by rw[<-jB6 h,jBw]
 have h1:((ds.take i).find? fun d=>decide (d.id=x))=none:=jD3.2 fun d hd=>by simpa using hn d hd
 have h2:∀y,y=ds[i]->(ds.find? fun d=>decide (d.id=x))=some y:=fun y hy=>by rw[<-hy]at e he;rw[e,List.find?_append,h1];simp[he]
 exact h2 _ rfl
theorem zLg(M:List Md)(ds:wS)(x:Id)(hL:ds.length<=1000000):my 26 [.agg [.sl M.length (qA M),.row 0 ds.length],.agg (zS x)] (zHf ds) (.tup [.agg (zJ (zAt ds x).1),bl (zAt ds x).2]) (zHf ds):=by
 refine mq [] [.cell 4 31 true,.slot 5] func26 (by kernel_rfl) ?_
 (conv in kq _ _=>cbv)
 simp[zHf,zS];refine qI (S:=Nat) (fun i=>[(2,.ptr 1 0),(3,.ptr 2 0),(4,.ptr 3 0),(6,int i)]) (fun _=>[.row false 42 31 ds.length (zQ ds),.box [.sl M.length (qA M),.row 0 ds.length],.box (zS x),.box (zJ Dfn.zero)]) (fun i=>i<=ds.length/\∀d∈ds.take i,d.id≠x) (fun i=>ds.length-i) 0 (by simp)
  (mw [0,1,2,3] 0 (by rfl) (by simp[zS,zJ,Dfn.zero,Id.zero,Typ.zero,Exp.zero])) ?_
 rintro i ⟨hi,hn⟩;by_cases h:i<ds.length
 .have hd:=yA h;have hb3:i*31+3<=ds.length*31:=by omega
  have hb31:i*31+31<=ds.length*31:=by omega
  have hw:=yK i (by omega);by_cases he:ds[i].id=x
  .have hv:zAt ds x=(ds[i],true):=by unfold zAt;rw[zCX h hn he]
   have he3:iJ ds[i].id.a ds[i].id.b ds[i].id.c x.a x.b x.c=true:=by rw[eC];exact decide_eq_true he
   simp[h,hd,zS,zJ,he3,hb3,hb31];exact mv [0] 0 (by rfl) (by simp[hv,zJ])
  .have he3:iJ ds[i].id.a ds[i].id.b ds[i].id.c x.a x.b x.c=false:=by rw[eC];exact decide_eq_false he
   simp[h,hd,zS,zJ,he3,hb3,hb31];exact zO (i+1) ⟨h,fun d hd'=>by
    rw[jA7 h]at hd';rcases jA6.1 hd' with hd'|hd'
    .exact hn d hd'
    .rw[jAi.1 hd'];exact he⟩ (by omega) (mw [0,1,2,3] 0 (by rfl) (by simp[zS,zJ,Dfn.zero,Id.zero,Typ.zero,Exp.zero,hw]))
 .have:i=ds.length:=by omega
  subst this;rw[jAs]at hn;have hv:zAt ds x=(Dfn.zero,false):=by unfold zAt;rw[jD3.2 fun d hd=>by simpa using hn d hd]
  simp[zJ,Dfn.zero,Id.zero,Typ.zero,Exp.zero]
  first|exact fun _=>mv [0] 0 (by rfl) (by simp[hv,zJ,Dfn.zero,Id.zero,Typ.zero,Exp.zero])|exact mv [0] 0 (by rfl) (by simp[hv,zJ,Dfn.zero,Id.zero,Typ.zero,Exp.zero])
theorem zVB(M:List Md)(ds:wS)(x:Id)(hL:ds.length<=1000000):my 26 [.agg [.sl M.length (qA M),.sl ds.length (zQ ds)],.agg (zS x)] [] (.tup [.agg (zJ (zAt ds x).1),bl (zAt ds x).2]) []:=by
 refine mq [] [.cell 4 31 true,.slot 5] func26 (by kernel_rfl) ?_
 (conv in kq _ _=>cbv)
 simp[zHf,zS];refine qI (S:=Nat) (fun i=>[(2,.ptr 0 0),(3,.ptr 1 0),(4,.ptr 2 0),(6,int i)]) (fun _=>[.box [.sl M.length (qA M),.sl ds.length (zQ ds)],.box (zS x),.box (zJ Dfn.zero)]) (fun i=>i<=ds.length/\∀d∈ds.take i,d.id≠x) (fun i=>ds.length-i) 0 (by simp)
  (mw [0,1,2] 0 (by rfl) (by simp[zS,zJ,Dfn.zero,Id.zero,Typ.zero,Exp.zero])) ?_
 rintro i ⟨hi,hn⟩;by_cases h:i<ds.length
 .have hd:=yA h;have hb3:i*31+3<=ds.length*31:=by omega
  have hb31:i*31+31<=ds.length*31:=by omega
  have hw:=yK i (by omega);by_cases he:ds[i].id=x
  .have hv:zAt ds x=(ds[i],true):=by unfold zAt;rw[zCX h hn he]
   have he3:iJ ds[i].id.a ds[i].id.b ds[i].id.c x.a x.b x.c=true:=by rw[eC];exact decide_eq_true he
   simp[h,hd,zS,zJ,he3,hb3,hb31];intro hl;exact mv [] 0 (by rfl) (by simp[hv,zJ])
  .have he3:iJ ds[i].id.a ds[i].id.b ds[i].id.c x.a x.b x.c=false:=by rw[eC];exact decide_eq_false he
   simp[h,hd,zS,zJ,he3,hb3,hb31];intro hl;exact zO (i+1) ⟨h,fun d hd'=>by
    rw[jA7 h]at hd';rcases jA6.1 hd' with hd'|hd'
    .exact hn d hd'
    .rw[jAi.1 hd'];exact he⟩ (by omega) (mw [0,1,2] 0 (by rfl) (by simp[zS,zJ,Dfn.zero,Id.zero,Typ.zero,Exp.zero,hw]))
 .have:i=ds.length:=by omega
  subst this;rw[jAs]at hn;have hv:zAt ds x=(Dfn.zero,false):=by unfold zAt;rw[jD3.2 fun d hd=>by simpa using hn d hd]
  simp[zJ,Dfn.zero,Id.zero,Typ.zero,Exp.zero]
  first|exact fun _=>mv [] 0 (by rfl) (by simp[hv,zJ,Dfn.zero,Id.zero,Typ.zero,Exp.zero])|exact mv [] 0 (by rfl) (by simp[hv,zJ,Dfn.zero,Id.zero,Typ.zero,Exp.zero])
end Go.Proofs.YtolkhapmieigcaaGreatDoor

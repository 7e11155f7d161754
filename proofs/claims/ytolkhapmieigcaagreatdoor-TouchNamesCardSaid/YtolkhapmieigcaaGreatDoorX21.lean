/- What package touch computes, as data: tests, what a test asks, which sides touch it, which -/
import Derived.Test.YtolkhapmieigcaaGreatDoorX20
set_option linter.unusedVariables false
set_option maxHeartbeats 8000000
set_option maxRecDepth 100000
set_option linter.unusedSimpArgs false
open Go.Proofs.Tryz
namespace Go.Proofs.YtolkhapmieigcaaGreatDoor
open Go.Abs
def zFa(p:Prg)(t:Id):Option Dfn:=(qM p.defs t).filter fun d=>decide (d.kind=4)
variable{p:Prg}{t:Id}{d:Dfn}
theorem zLZ(h:zFa p t=some d):qM p.defs t=some d/\d.kind=4:=by unfold zFa at h;rw[Option.filter_eq_some_iff]at h;exact⟨h.1,by simpa using h.2⟩
def bQ(p:Prg)(t:Id):Bool:=(zFa p t).isSome
def gZ(p:Prg):wG:=(p.defs.filter fun d=>decide (d.kind=4)).map Dfn.id
def j7(p:Prg):wG:=bE gI (gZ p)
def trz:Trc:=⟨[],[]⟩
def bI(a b:Trc):Trc:=⟨aP (a.defs++b.defs),aP (a.nodes++b.nodes)⟩
def mR(t:Trc)(ids:wG):Bool:=ids.any fun x=>decide (x∈t.defs++t.nodes)
def bH(p:Prg)(t:Id)(fuel:Int):Trc->List wI->Trc×Int
 |acc,[]=>(acc,0)
 |acc,x::xs=>if (yW p t x fuel).e≠0 then (trz,(yW p t x fuel).e)else bH p t fuel (bI acc ⟨(yW p t x fuel).ds,(yW p t x fuel).ns⟩) xs
def iV(p:Prg)(t:Id)(fuel:Int):Trc×Int:=match zFa p t with
 |none=>(trz,6)
 |some d=>if (aZ p d.slots).2≠0 then (trz,(aZ p d.slots).2)else bH p t fuel trz (aZ p d.slots).1
def yY(p:Prg)(t:Id)(fuel:Int):Trc×Int:=if bQ p t then iV p t fuel else (trz,0)
def xH(p q:Prg):wG:=l9 p.defs q.defs
def ofT(b l r:Prg)(t:Id)(fuel:Int):(Bool×Bool)×Int :=
 if (yY b t fuel).2≠0 then ((false,false),(yY b t fuel).2)
 else if (yY l t fuel).2≠0 then ((false,false),(yY l t fuel).2)
 else if (yY r t fuel).2≠0 then ((false,false),(yY r t fuel).2)
 else if (!bQ b t&&!bQ l t&&!bQ r t)=true then ((false,false),6)
 else ((mR (bI (yY b t fuel).1 (yY r t fuel).1) (xH b l)||(!bQ b t&&bQ l t&&!bQ r t),mR (bI (yY b t fuel).1 (yY l t fuel).1) (xH b r)||(!bQ b t&&!bQ l t&&bQ r t)),0)
def lS(b l r:Prg)(fuel:Int)(t:Id):Bool:=decide ((ofT b l r t fuel).2≠0)||((ofT b l r t fuel).1.1&&(ofT b l r t fuel).1.2)
def fV(b l r:Prg)(fuel:Int):wG:=(aP (j7 b++j7 l++j7 r)).filter (lS b l r fuel)
theorem zYp(a b:Trc)(ids:wG):mR (bI a b) ids=(mR a ids||mR b ids):=by
 unfold mR bI;rw[Bool.eq_iff_iff];simp only[List.any_eq_true,jBa,decide_eq_true_eq,jA6,aQ];constructor
 .rintro⟨x,hx,(h|h)|(h|h)⟩
  .exact .inl ⟨x,hx,.inl h⟩
  .exact .inr ⟨x,hx,.inl h⟩
  .exact .inl ⟨x,hx,.inr h⟩
  .exact .inr ⟨x,hx,.inr h⟩
 .rintro(⟨x,hx,h|h⟩|⟨x,hx,h|h⟩)
  .exact⟨x,hx,.inl (.inl h)⟩
  .exact⟨x,hx,.inr (.inl h)⟩
  .exact⟨x,hx,.inl (.inr h)⟩
  .exact⟨x,hx,.inr (.inr h)⟩
theorem zIh(t:Trc):mR t []=false:=rfl
theorem zMV(b l r:Prg)(t:Id)(fuel:Int):((ofT b l r t fuel).2=0↔(ofT b r l t fuel).2=0)/\(ofT b l r t fuel).1.1=(ofT b r l t fuel).1.2/\(ofT b l r t fuel).1.2=(ofT b r l t fuel).1.1:=by
 unfold ofT;by_cases h1:(yY b t fuel).2=0
 .by_cases h2:(yY l t fuel).2=0
  .by_cases h3:(yY r t fuel).2=0
   .simp only[h1,h2,h3,ne_eq,not_true_eq_false,if_false];cases bQ b t<;>cases bQ l t<;>cases bQ r t<;>simp
   .simp[h1,h2,h3]
  .by_cases h3:(yY r t fuel).2=0
   .simp[h1,h2,h3]
   .simp[h1,h2,h3]
 .simp[h1]
theorem zT3(b r:Prg)(t:Id)(fuel:Int)(h:xH b b=[]):(ofT b b r t fuel).1.1=false:=by
 unfold ofT;by_cases h1:(yY b t fuel).2=0
 .by_cases h3:(yY r t fuel).2=0
  .simp only[h1,h3,ne_eq,not_true_eq_false,if_false,h,zIh];cases bQ b t<;>cases bQ r t<;>simp
  .simp[h1,h3]
 .simp[h1]
theorem zMU(b l q:Prg)(t:Id)(fuel:Int)(h:xH b q=[])(hh:bQ q t=bQ b t):(ofT b l q t fuel).1.2=false:=by
 unfold ofT;by_cases h1:(yY b t fuel).2=0
 .by_cases h2:(yY l t fuel).2=0
  .by_cases h3:(yY q t fuel).2=0
   .simp only[h1,h2,h3,ne_eq,not_true_eq_false,if_false,h,zIh,hh];cases bQ b t<;>cases bQ l t<;>simp
   .simp[h1,h2,h3]
  .simp[h1,h2]
 .simp[h1]
theorem zN0(b l r:Prg)(fuel:Int):∀t∈fV b l r fuel,lS b l r fuel t=true/\(t∈gZ b\/t∈gZ l\/t∈gZ r):=by
 intro t ht;obtain⟨h1,h2⟩:=List.mem_filter.1 ht;refine⟨h2,?_⟩;rw[aQ]at h1;simp only[jA6]at h1;have hm:∀q:Prg,t∈j7 q->t∈gZ q:=fun q hq=>(cQ (gZ q)).mem_iff.1 hq
 rcases h1 with (h1|h1)|h1
 .exact .inl (hm _ h1)
 .exact .inr (.inl (hm _ h1))
 .exact .inr (.inr (hm _ h1))
theorem zNz(b:Prg)(fuel:Int):(fV b b b fuel).length<=(j7 b).length:=by
 have e:aP (j7 b++j7 b++j7 b)=aP (j7 b):=(i7 _).unique (i7 _) fun x=>by rw[aQ,aQ];simp
 have h1:=jBg (lS b b b fuel) (aP (j7 b++j7 b++j7 b));have h2:=cI (j7 b);unfold fV;rw[e]at h1 ⊢;omega
theorem zIe(b l q:Prg)(fuel:Int)(h:xH b q=[])(hh:∀t,bQ q t=bQ b t):∀t∈fV b l q fuel,(ofT b l q t fuel).2≠0:=by intro t ht;have h1:=(zN0 b l q fuel t ht).1;unfold lS at h1;rw[zMU b l q t fuel h (hh t),Bool.and_false,Bool.or_false]at h1;exact of_decide_eq_true h1
structure SameI(p q:Prg):Prop where
 valid:∀t,validT q t=validT p t
 kind:∀r,(dfn q r).kind=(dfn p r).kind
 types:∀r,(dfn q r).slots.map Slt.typ=(dfn p r).slots.map Slt.typ
theorem xC(e:Exp):e∈aB e:=by rw[fW];simp
theorem zEn{k:Exp}:∀{l:wH},k∈l->k∈yR l
 |[],h=>by simp at h
 |e::l,h=>by
  rw[yR,jA6];rcases jA3.1 h with rfl|h
  .exact .inl (xC _)
  .exact .inr (zEn h)
mutual
theorem zD7{e k:Exp}(hk:k∈e.kids):∀r:Exp,e∈aB r->k∈aB r
 | .mk i n m f t ks ns,h=>by
  rw[aB,jA3]at h⊢;rcases h with rfl|h
  .exact .inr (zEn hk)
  .exact .inr (zCx hk ks h)
theorem zCx{e k:Exp}(hk:k∈e.kids):∀l:wH,e∈yR l->k∈yR l
 |[],h=>by simp[yR]at h
 |r::l,h=>by
  rw[yR,jA6]at h⊢;rcases h with h|h
  .exact .inl (zD7 hk r h)
  .exact .inr (zCx hk l h)
end
theorem rQ{ds:wS}{e:Exp}:e∈jZ ds↔∃d∈ds,eV d.kind=true/\e∈aB d.body:=by
 unfold jZ;rw[List.mem_flatMap];constructor
 .rintro⟨d,hd,h⟩;by_cases hb:eV d.kind=true
  .rw[if_pos hb]at h;exact⟨d,hd,hb,h⟩
  .rw[if_neg hb]at h;simp at h
 .rintro⟨d,hd,hb,h⟩;exact⟨d,hd,by rw[if_pos hb];exact h⟩
theorem zEz{ds:wS}{e k:Exp}(h:e∈jZ ds)(hk:k∈e.kids):k∈jZ ds:=by obtain⟨d,hd,hb,h⟩:=rQ.1 h;exact rQ.2 ⟨d,hd,hb,zD7 hk _ h⟩
def Cp(p q:Prg)(e e':Exp):Prop:=e'=e\/(e∈jZ p.defs/\e'∈jZ q.defs/\e'.id=e.id)
theorem Al.getD{α:Type}{R : α->α->Prop}{z : α}(hz:R z z){l m:List α}(h:Al R l m):∀i:Nat,R (l.getD i z) (m.getD i z):=by
 induction h with
 |nil=>intro i;simpa using hz
 |cons h _ ih =>
  intro i;cases i with
  |zero=>exact h
  |succ i=>simpa using ih i
theorem Al.headD{α:Type}{R : α->α->Prop}{z : α}(hz:R z z){l m:List α}(h:Al R l m):R (l.headD z) (m.headD z):=by
 cases h with
 |nil=>exact hz
 |cons h _=>exact h
theorem zM1{p q:Prg}:∀{l m:wH},bX sG l m=true->(∀k∈l,k∈jZ p.defs)->(∀k∈m,k∈jZ q.defs)->Al (Cp p q) l m
 |[],[],_,_,_=>.nil
 |[],_::_,h,_,_=>by simp[bX]at h
 |_::_,[],h,_,_=>by simp[bX]at h
 |a::l,b::m,h,h1,h2=>by simp only[bX,jA7,sG,decide_eq_true_eq]at h;exact .cons (.inr ⟨h1 a (by simp),h2 b (by simp),h.1.symm⟩) (zM1 h.2 (fun k hk=>h1 k (by simp[hk])) fun k hk=>h2 k (by simp[hk]))
variable{q:Prg}
theorem Cp.same(hp:NdN p)(hq:NdN q){e e':Exp}(h:Cp p q e e')(hn:e.id∉l9 p.defs q.defs):e'.id=e.id/\e'.k=e.k/\e'.n=e.n/\e'.ref=e.ref/\Al (Cp p q) e.kids e'.kids:=by
 rcases h with rfl|⟨h1,h2,h3⟩
 .exact⟨rfl,rfl,rfl,rfl,Al.refl (fun _=>.inl rfl) _⟩
 .obtain⟨a,ha⟩:=zBO (idf:=Exp.id) h1;obtain⟨b,hb⟩:=zBO (idf:=Exp.id) h2;have ea:a=e:=hp.eq (tM ha) h1 (uW ha);have eb:b=e':=hq.eq (tM hb) h2 (uW hb);subst ea;subst eb;rw[h3]at hb;have hs:bS a b=true:=by
   cases hq2:bS a b with
   |true=>rfl
   |false =>
    refine(hn ?_).elim;unfold l9;rw[aQ,jA6];refine .inr ?_;rw[o7,o7,zJs];exact .inl ⟨a,ha,fun b' hb'=>by rw[hb]at hb';cases hb';exact hq2⟩
  simp only[bS,jA7,decide_eq_true_eq]at hs;obtain⟨s1,s2,s3,_,s5⟩:=hs;exact⟨h3,s1.symm,s2.symm,s3.symm,zM1 s5 (fun k hk=>zEz h1 hk) fun k hk=>zEz h2 hk⟩
section
variable{p q:Prg}{ev ev':Evl}{c:wG}
def Off(c:wG)(s:XS):Prop:=∀x∈s.ns,x∉c
theorem Off.sub{s t:XS}(h:Off c t)(hs:iA s t):Off c s:=fun x hx=>h x (hs.2 x hx)
def zNx(p q:Prg)(c:wG)(ev ev':Evl):Prop:=∀e e' V s,Cp p q e e'->Off c (ev e V s).2->ev' e' V s=ev e V s
theorem zPM(h:zNx p q c ev ev')(hg:Grow ev)(V:wP){l m:wH}(hl:Al (Cp p q) l m):∀s,Off c (jQ ev V l s).2->jQ ev' V m s=jQ ev V l s:=by
 induction hl with
 |nil=>intro s _;rfl
 | @cons e e' l m h1 _ ih =>
  intro s ho;simp only[jQ]at ho ⊢;have h2:=h e e' V s h1 (ho.sub (hg.all V l _));rw[h2,ih _ ho]
theorem zMB(h:zNx p q c ev ev')(hg:Grow ev)(V:wP)(i:Id){b b':Exp}(hb:Cp p q b b'):∀(l:wI) (r:Val×XS),Off c (aN ev V i b l r).2->aN ev' V i b' l r=aN ev V i b l r
 |[],r,_=>rfl
 |x::l,r,ho=>by simp only[aN]at ho ⊢;have h2:=h b b' (V++[⟨i,0,x⟩]++[⟨i,1,r.1⟩]) r.2 hb (ho.sub (hg.fold V i b l _));rw[h2,zMB h hg V i hb l _ ho]
theorem zMv(h:zNx p q c ev ev'){d d':Dfn}(hi:d'.id=d.id)(hs:d'.slots=d.slots)(hb:Cp p q d.body d'.body)(vs:wI)(s:XS)(ho:Off c (dR ev d vs s).2):dR ev' d' vs s=dR ev d vs s:=by
 unfold dR at ho ⊢;rw[hi,hs];split
 .rfl
 .rename_i hf;rw[if_neg hf]at ho;exact h _ _ _ _ hb ho
theorem zFt(hg:Grow ev)(e:Exp)(V:wP)(s:XS):iA (ev (e.kids.headD .zero) V s).2 (jO ev e V s).2:=by
 unfold jO;generalize ev (e.kids.headD .zero) V s=r at *
 repeat' split
 all_goals first
  |exact iA.rfl' _
  |exact hg _ _ _
  |exact(hg _ _ _).trans (hg.fold _ _ _ _ _)
theorem zN8(h:zNx p q c ev ev')(hg:Grow ev){e e':Exp}(hi:e'.id=e.id)(hk:e'.k=e.k)(hn:e'.n=e.n)(hks:Al (Cp p q) e.kids e'.kids)(V:wP)(s:XS)(ho:Off c (jO ev e V s).2):jO ev' e' V s=jO ev e V s:=by
 have hz:Cp p q .zero .zero:=.inl rfl;have h0:=h _ _ V s (hks.headD hz) (ho.sub (zFt hg e V s));unfold jO at ho ⊢;rw[h0,hk,hn,hi];generalize ev (e.kids.headD .zero) V s=r at *
 by_cases c0:r.2.fail≠0
 .rw[if_pos c0,if_pos c0]
 rw[if_neg c0]at ho ⊢;rw[if_neg c0];by_cases c1:e.k=5
 .rw[if_pos c1]at ho ⊢;rw[if_pos c1];exact h _ _ _ _ (hks.getD hz _) ho
 rw[if_neg c1]at ho ⊢;rw[if_neg c1];by_cases c2:e.k=6
 .rw[if_pos c2]at ho ⊢;rw[if_pos c2];exact h _ _ _ _ (hks.getD hz _) ho
 rw[if_neg c2]at ho ⊢;rw[if_neg c2];by_cases c3:e.k=8
 .rw[if_pos c3,if_pos c3]
 rw[if_neg c3]at ho ⊢;rw[if_neg c3];by_cases c4:e.k=10
 .rw[if_pos c4]at ho ⊢;rw[if_pos c4];exact h _ _ _ _ (hks.getD hz _) ho
 rw[if_neg c4]at ho ⊢;rw[if_neg c4];have h1:=h _ _ V r.2 (hks.getD hz 1) (ho.sub (hg.fold _ _ _ _ _));rw[h1];exact zMB h hg V e.id (hks.getD hz 2) _ _ ho
theorem zRS(h:zNx p q c ev ev')(hg:Grow ev)(hd:∀r,(dfn q r).id=(dfn p r).id/\(dfn q r).slots=(dfn p r).slots/\Cp p q (dfn p r).body (dfn q r).body)(fl:Nat){e e':Exp}(hi:e'.id=e.id)(hk:e'.k=e.k)(hn:e'.n=e.n)(hr:e'.ref=e.ref)
 (hks:Al (Cp p q) e.kids e'.kids)(V:wP)(s:XS)(ho:Off c (qP p fl ev e V s).2):qP q fl ev' e' V s=qP p fl ev e V s:=by
 unfold qP at ho ⊢;rw[hk,hn,hr];by_cases c0:e.k=0
 .rw[if_pos c0,if_pos c0]
 rw[if_neg c0]at ho ⊢;rw[if_neg c0];by_cases c1:e.k=1
 .rw[if_pos c1,if_pos c1]
 rw[if_neg c1]at ho ⊢;rw[if_neg c1];by_cases c2:e.k=2
 .rw[if_pos c2,if_pos c2]
 rw[if_neg c2]at ho ⊢;rw[if_neg c2];by_cases c3:e.k=5\/e.k=6\/e.k=8\/e.k=10\/e.k=12
 .rw[if_pos c3]at ho ⊢;rw[if_pos c3];exact zN8 h hg hi hk hn hks V s ho
 rw[if_neg c3]at ho ⊢;rw[if_neg c3];by_cases c4:e.k=3
 .rw[if_pos c4]at ho ⊢;rw[if_pos c4];rw[zPM h hg V hks s (ho.sub (hg.body _ _ _))];obtain⟨d1,d2,d3⟩:=hd e.ref;exact zMv h d1 d2 d3 _ _ ho
 rw[if_neg c4]at ho ⊢;rw[if_neg c4];have hal:Off c (jQ ev V e.kids s).2:=by
  revert ho
  repeat' split
  all_goals exact fun h=>h
 rw[zPM h hg V hks s hal]
end
theorem zTg(r:Val×XS):(oZ r).ns=r.2.ns:=by unfold oZ;split<;>rfl
theorem zMP{p q:Prg}(hp:NdN p)(hq:NdN q)(hd:∀r,(dfn q r).id=(dfn p r).id/\(dfn q r).slots=(dfn p r).slots/\Cp p q (dfn p r).body (dfn q r).body)(fl:Nat):∀n:Nat,zNx p q (l9 p.defs q.defs) (bD p fl n) (bD q fl n)
 | 0,e,e',V,s,_,_=>by rw[bD,bD]
 |n+1,e,e',V,s,hc,ho=>by
  rw[bD]at ho ⊢;rw[bD];by_cases hf:s.fail≠0
  .rw[if_pos hf,if_pos hf]
  rw[if_neg hf]at ho ⊢;rw[if_neg hf];by_cases hu:s.fuel<=0
  .rw[if_pos hu,if_pos hu]
  rw[if_neg hu]at ho ⊢;rw[if_neg hu];have ho1:Off (l9 p.defs q.defs) (qP p fl (bD p fl n) e V (gH e s)).2:=fun x hx=>ho x (by show x∈(oZ _).ns;rw[zTg];exact hx)
  have hg:=zJ3 p fl n;have hgv:iA (gH e s) (qP p fl (bD p fl n) e V (gH e s)).2:=zFj (I:=iA (gH e s)) (zEZ _) (fun e V t ht=>ht.trans (hg e V t)) fl e V _ (iA.rfl' _);have hid:e.id∉l9 p.defs q.defs:=ho1 e.id (hgv.2 e.id (by show e.id∈s.ns++[e.id];simp));obtain⟨s1,s2,s3,s4,s5⟩:=hc.same hp hq hid;have ht:gH e' s=gH e s:=by unfold gH;rw[s1]
  rw[ht,zRS (zMP hp hq hd fl n) hg hd fl s1 s2 s3 s4 s5 V _ ho1]
section
variable{p q:Prg}(hA:TwP p q)
include hA
variable{d:Dfn}
omit hA in
theorem TwP.cp{d':Dfn}(hd:d∈p.defs)(hd':d'∈q.defs)(h:TwD TwQ d d'):Cp p q d.body d'.body:=by
 cases hb:eV d.kind with
 |true =>
  have hk:d'.kind=d.kind:=by rw[h.eq];rfl
  exact .inr ⟨rQ.2 ⟨d,hd,hb,xC _⟩,rQ.2 ⟨d',hd',by rw[hk];exact hb,xC _⟩,h.q.1.1⟩
 |false=>exact .inl (h.no hb)
theorem TwP.dfn(r:Id):(dfn q r).id=(dfn p r).id/\(dfn q r).slots=(dfn p r).slots/\Cp p q (dfn p r).body (dfn q r).body:=by
 unfold Proofs.YtolkhapmieigcaaGreatDoor.dfn;rcases TwP.find hA r with ⟨h1,h2⟩|⟨d,d',h1,h2,h⟩
 .rw[h1,h2];exact⟨rfl,rfl,.inl rfl⟩
 .rw[h1,h2];refine⟨?_,?_,TwP.cp (y8 h1).1 (y8 h2).1 h⟩
  .show d'.id=d.id;rw[h.eq];rfl
  .show d'.slots=d.slots;rw[h.eq];rfl
theorem TwP.run(hp:NdN p){id:Id}{d':Dfn}(h1:qM p.defs id=some d)(h2:qM q.defs id=some d')(h:TwD TwQ d d')(vs:wI)(fuel:Int)(ho:Off (l9 p.defs q.defs) (nI p d vs fuel).2) :
 nI q d' vs fuel=nI p d vs fuel:=by
 have hi:d'.id=d.id:=by rw[h.eq];rfl
 have hs:d'.slots=d.slots:=by rw[h.eq];rfl
 unfold nI at ho ⊢;have hr:c7 q d'.slots []=c7 p d.slots []:=by rw[hs];exact zJH (TwP.to0 hA) (Al.refl (fun _=>⟨rfl,rfl,rfl⟩) _) []
 rw[hr];exact zMv (zMP hp (TwP.nd hA hp) (TwP.dfn hA) 1 fuel.toNat) hi hs (TwP.cp (y8 h1).1 (y8 h2).1 h) vs _ ho
theorem TwP.call(hp:NdN p){id:Id}(hd:qM p.defs id=some d)(hkd:eV d.kind=true)(vs:wI)(fuel:Int)(ho:∀x∈(yW p id vs fuel).ns,x∉l9 p.defs q.defs) :
 yW q id vs fuel=yW p id vs fuel/\vL q id vs fuel=vL p id vs fuel:=by
 rcases TwP.find hA id with ⟨h1,h2⟩|⟨d0,d',h1,h2,h⟩
 .rw[h1]at hd;cases hd
 .rw[h1]at hd;cases hd;have hk:d'.kind=d.kind:=by rw[h.eq];rfl
  have hs:d'.slots=d.slots:=by rw[h.eq];rfl
  have hb:eU d'=true:=by unfold eU;rw[hk];exact zB4 hkd
  have hb0:=zB4 hkd;have hft:=xY (TwP.to0 hA) vs (d.slots.map Slt.typ);by_cases hl:vs.length=d.slots.length
  .cases hfl:aH p (d.slots.map Slt.typ) vs with
   |true =>
    rw[hfl]at hft;have hr:=TwP.run hA hp h1 h2 h vs fuel fun x hx=>ho x (by
     have:yW p id vs fuel=zI8 (nI p d vs fuel):=by simp[yW,h1,hkd,hl,hfl]
     rw[this];exact aQ.2 hx)
    constructor
    .simp[yW,h1,h2,hk,hs,hkd,hl,hfl,hft,hr]
    .simp[vL,h1,h2,hb,hb0,hs,hl,hfl,hft,hr]
   |false =>
    rw[hfl]at hft;constructor
    .simp[yW,h1,h2,hk,hs,hkd,hl,hfl,hft]
    .simp[vL,h1,h2,hb,hb0,hs,hl,hfl,hft]
  .constructor
   .simp[yW,h1,h2,hk,hs,hkd,hl]
   .simp[vL,h1,h2,hb,hb0,hs,hl]
end
def zPD:K:=G [kO 2 0,kO 3 1,kMi 4 0] (Z (K.dops [(0,0,D 5 2 0),(1,0,L 6 5 1),(2,0,D 7 3 0),(3,0,L 8 7 1),(4,0,kC 9 100 [(kt 6),(kt 8)]),(5,0,D 10 2 1),(6,0,L 11 10 1),(7,0,D 12 3 1),(8,0,L 13 12 1),(9,0,kC 14 100 [(kt 11),(kt 13)]),(10,0,D 15 2 2),(11,0,L 16 15 1),(12,0,D 17 3 2),(13,0,L 18 17 1),(14,0,kC 19 100 [(kt 16),(kt 18)]),(15,0,kd 20 3 1 3 [ki,ki,ki] [(0,1,(kt 9)),(1,1,(kt 14)),(2,1,(kt 19))]),(16,0,kC 21 99 [(kt 20)]),(17,0,M 4 21)]) kr)
theorem zWc:ky f43 zPD:=m_ (by kernel_rfl)
def zPF:K:=G [kO 1 0,kMn 2] (G [kMn 3] (Z (G [D 6 1 1,L 7 6 1,kN 8 7,kMi 9 0] (K.block 0 (K.loop (G [kB 10 9 8 .lss] (Z (Y 10 ks (K.exit 0)) (Z (K.block 1 (G [kX 11 7 9 31,J 12 11 31,kZ 5 kz0,S 5 12 31] (G [D 13 5 3,L 14 13 1,kQi 15 14 4 false] (Y 15 (K.ops [M 16 3,D 17 5 0,J 18 17 3,kd 19 32 3 1 [ki,ki,ki] [(0,3,(kt 18))],kP 20 32 3 24 16 19,M 3 20]) ks)))) (K.ops [kBi 21 9 1 .add,M 9 21]))))))) (G [M 22 3,kC 23 42 [(kt 22),(.func 43)]] (G [M 24 3,M 2 24] kr))))
theorem zWe:ky f13 zPF:=m_ (by kernel_rfl)
def zPC:K:=G [kO 2 0,kO 3 1,kZ 4 kz0,kMb 5 false] (G [J 9 2 2,J 10 3 3,kC 11 70 [(kt 9),(kt 10)],M 8 11,kE 12 8 0,kE 13 8 1,kZ 6 kz0,S 6 12 31,M 7 13] (Z (K.dops [(0,0,J 14 6 31),(1,0,M 15 7),(2,0,M 16 15),(3,2,T 16 true (D 17 6 3)),(4,2003,T 16 true (L 18 17 1)),(5,0,T 16 true (kQi 19 18 4 false)),(6,0,kPf 20 16 19),(7,1003,S 4 14 31),(8,0,M 5 20)]) kr))
def zWX:Nat->Option wE:=fun|2=>k_ [0,0,0,2,2003,0,0,1003,0]|_=>none
theorem zWb:kx f44 zWX zPC:=mz (by kernel_rfl)
theorem zPc(x y:Id):my 43 [.agg (zX x),.agg (zX y)] [] (int (gI x y)) []:=by refine zG func43 rfl zWc (rs:=[.slot 4]) (by kernel_rfl) ?_;unfold zPD;simp[zX];refine qB (cM x.a y.a) (by simp) (by simp) ?_;simp;refine qB (cM x.b y.b) (by simp) (by simp) ?_;simp;refine qB (cM x.c y.c) (by simp) (by simp) ?_;simp;refine qB (zMW [bN x.a y.a,bN x.b y.b,bN x.c y.c]) (by simp) (by simp) ?_;simp;exact zC 0 (by simp[gI])
theorem zSB:∀args w,(callFunc 43 args).run prog w=.ok (.enter 43 args) w:=enters_of func43 (by kernel_rfl) rfl
theorem zXI:zB0 prog 42 43 zX gI :=
 zRD (k:=3) (fun _=>rfl) gR zPc fun α _ enc hk h1 cf hO blk off cap d w hcmp hH hblk hsz =>
  Go.Proofs.AnyQ.slices_SortFunc zLs 3 isAgg32 sizeOf32 enc hk h1 cf hO 43 #[] blk off cap d w zSB hcmp hH hblk hsz
theorem zKi(l:wG)(hmx:l.length<4611686018427387904):my 42 [.row 0 l.length,.clo 43 [] []] [.row false 32 3 l.length (zS l)] (.tup []) [.row false 32 3 l.length (zS (bE gI l))]:=by
 have:=zEX (sz:=3) (by omega) (fun _=>rfl) (fun b=>by simp[zX]) gR 32 zXI zH3 l hmx
 simpa only[zC5]using this
def tsD(l:wS):wG:=(l.filter fun d=>decide (d.kind=4)).map Dfn.id
@[simp]theorem qHp:tsD []=[]:=rfl
variable{i:Nat}
theorem zKn{l:wS}(h:i<l.length):tsD (l.take (i+1))=tsD (l.take i)++(if l[i].kind=4 then [l[i].id]else []):=by unfold tsD;rw[jA8 h,jCs,jBh];by_cases h4:l[i].kind=4<;>simp[h4]
theorem oA(l:wS):(tsD l).length<=l.length:=by unfold tsD;rw[jAa];exact jBg _ _
theorem uE(p:Prg)(hL:p.defs.length<=1000000):my 13 [.agg (zI p)] [] (.sl (j7 p).length (zS (j7 p))) []:=by
 have e:j7 p=bE gI (tsD p.defs):=rfl;rw[e];have hlen:(bE gI (tsD p.defs)).length=(tsD p.defs).length:=(cQ _).length_eq;have hle:(tsD p.defs).length<=p.defs.length:=oA p.defs;refine zG func13 rfl zWe (rs:=[.slot 2]) (by kernel_rfl) ?_;unfold zPF;simp[zI];intro hl;refine qH (S:=Nat) (fun i=>[(1,.ptr 0 0),(3,.row 1 (tsD (p.defs.take i)).length),(7,.sl p.defs.length (zV p.defs)),(8,int p.defs.length),(9,int i)])
  (fun i=>[.box (zI p),.row false 32 3 (tsD (p.defs.take i)).length (zS (tsD (p.defs.take i)))])
  (fun i=>i<=p.defs.length) (fun i=>p.defs.length-i) 0 (by simp)
  ((jS (t:=3) (by simp) 32 3).trans (mw [0,1] 0 (by rfl) (by simp[zI]))) ?_
 intro i hi;by_cases h:i<p.defs.length
 .have hcd:=j5 h;have hsn:=zKn h;have hll:=oA (p.defs.take i);have htl:(p.defs.take i).length<=i:=by simp;omega
  generalize tsD (p.defs.take i)=L at *
  have hw:=zY h hl;generalize p.defs[i]=d at *
  by_cases hk:d.kind=4
  .rw[if_pos hk]at hsn;simp[h,hcd,zQ,hk];refine⟨⟨by simp[maxLen];omega,by omega⟩,?_⟩;exact zN (i+1) h (by omega) (mw [0,1] 0 (by rfl) (by simp[zI,hsn,qD,eK,hw]))
  .rw[if_neg hk,jAs]at hsn;simp[h,hcd,zQ,hk];exact zN (i+1) h (by omega) (mw [0,1] 0 (by rfl) (by simp[zI,hsn,hw]))
 .have hie:i=p.defs.length:=by omega
  subst hie;rw[jB2];have hs:=zKi (tsD p.defs) (by omega);simp;refine mr hs [1] (by simp) ?_;simp;exact zC 1 (by simp[hlen])
def zQE(p:Prg)(t:Id):A:=.tup [.agg (zQ ((qM p.defs t).getD .zero)),bl (bQ p t)]
theorem zHn(p:Prg)(t:Id):bQ p t=((qM p.defs t).isSome&&decide (((qM p.defs t).getD .zero).kind=4)):=by
 unfold bQ zFa;cases qM p.defs t with
 |none=>rfl
 |some d=>by_cases h:d.kind=4<;>simp[h]
theorem zDv(p:Prg)(t:Id):my 44 [.agg (zI p),.agg (zX t)] [] (zQE p t) []:=by
 have hd:=s9 p t;have he:=zHn p t;unfold zQE;unfold gN at hd;generalize (qM p.defs t).getD .zero=d at *
 refine zJ func44 rfl zWb (rs:=[.cell 4 31 true,.slot 5]) (by kernel_rfl) ?_;unfold zPC;simp[zI];refine mu hd (by simp[zI,zX]) ?_;cases hs:(qM p.defs t).isSome with
 |true =>
  rw[hs]at he;simp[zQ];exact zC 0 (by simp[zQ,he])
 |false =>
  rw[hs]at he;simp[zQ];exact zC 0 (by simp[zQ,he])
theorem zLn{l:List Slt}{x:wI}(hx:x∈(aZ p l).1):(cX p 1 l).2=0/\x∈yB (iO p l):=by
 unfold aZ at hx;split at hx
 .simp at hx
 .rename_i h;exact⟨by simpa using h,(zEW _ _).mem_iff.1 hx⟩
theorem zHt{l:List Slt}{x:wI}(hx:x∈(aZ p l).1):∀v∈x,qU v<=256/\fJ v<=24:=by intro v hv;obtain⟨h0,h1⟩:=zLn hx;obtain⟨q,hq,hvq⟩:=zLD h1 hv;obtain⟨s,hs,rfl⟩:=jAf.1 hq;obtain⟨m0,m1,he⟩:=(pZ p l 1 h0).2 s hs;have a:=zD2 p s.most ⟨m0,m1⟩ 24 s.typ he v hvq;have b:=(c9 p s.most ⟨m0,m1⟩ 24 s.typ he).2.2.2;omega
theorem zCH(p:Prg)(l:List Slt):(aZ p l).1.length<=4096:=by
 unfold aZ;split
 .simp
 .rename_i h;have h:(cX p 1 l).2=0:=by simpa using h
  obtain⟨hk,_⟩:=pZ p l 1 h;have hle:=zBE p l 1 (by decide) (by decide);show (bE tW (yB (iO p l))).length<=4096;rw[(zEW _ _).length_eq,yB,mF];simp only[jAb,jB4];omega
variable{hs:wQ}{fuel:Int}
theorem zDC(hf:Fit p hs)(t:Id)(vs:wI)(h0:0<=fuel)(hfu:fuel<=90000):(yW p t vs fuel).ds.length<=100000/\(yW p t vs fuel).ns.length<=100000:=by
 unfold yW;cases hd:qM p.defs t with
 |none=>simp
 |some d =>
  simp only;split
  .simp
  split
  .simp
  split
  .simp
  .have hdm:=(y8 hd).1;obtain⟨_,_,_,_,sty⟩:=hf.slots d hdm;have hrl:RL p (c7 p d.slots []):=RL.fold (fun(s:Slt) L=>j3 p 10 s.typ L) d.slots [] (fun s hs' L hL=>((zJI hf ⟨0,0,[],[]⟩ rfl (sty s hs') 10 (by omega)) L hL).1) ⟨by simp,by simp⟩;have hL8:=hrl.len hf;have hBd:Bd 100000 fuel.toNat ⟨fuel,0,c7 p d.slots [],[]⟩:=⟨by simp;omega,by simp only;omega,by simp only;omega,fun _=>by simp only;omega⟩;have hrB:=zD9 (zBa (p:=p) 1 fuel.toNat) d vs _ hBd;have h1:=hrB.ds;have h2:=hrB.ns;have h3:=cI (nI p d vs fuel).2.ds;have h4:=cI (nI p d vs fuel).2.ns;change (nI p d vs fuel).2.ds.length+(nI p d vs fuel).2.fuel.toNat<=100000 at h1;change (nI p d vs fuel).2.ns.length+(nI p d vs fuel).2.fuel.toNat<=100000 at h2;show (aP (nI p d vs fuel).2.ds).length<=_/\(aP (nI p d vs fuel).2.ns).length<=_;omega
theorem zBs{p:Prg}{hs:wQ}(hf:Fit p hs)(t:Id){fuel:Int}(h0:0<=fuel)(hfu:fuel<=90000):∀(xs:List wI) (acc:Trc),
 (bH p t fuel acc xs).1.defs.length<=acc.defs.length+100000*xs.length/\(bH p t fuel acc xs).1.nodes.length<=acc.nodes.length+100000*xs.length
 |[],acc=>by simp[bH]
 |x::xs,acc=>by
  obtain⟨c1,c2⟩:=zDC hf t x h0 hfu;unfold bH;split
  .simp[trz]
  .have ih:=zBs hf t h0 hfu xs (bI acc ⟨(yW p t x fuel).ds,(yW p t x fuel).ns⟩);have e1:=cI (acc.defs++(yW p t x fuel).ds);have e2:=cI (acc.nodes++(yW p t x fuel).ns);simp only[jA4]at e1 e2;simp only[bI,jAb]at ih ⊢;omega
theorem zKl(hf:Fit p hs)(t:Id)(h0:0<=fuel)(hfu:fuel<=90000):(iV p t fuel).1.defs.length<=409600000/\(iV p t fuel).1.nodes.length<=409600000:=by
 unfold iV;split
 .simp[trz]
 .rename_i d _;split
  .simp[trz]
  .have:=zBs hf t h0 hfu (aZ p d.slots).1 trz;have hm:=zCH p d.slots;simp only[trz,jB4]at this ⊢;omega
theorem zAk(hf:Fit p hs)(t:Id)(h0:0<=fuel)(hfu:fuel<=90000):(yY p t fuel).1.defs.length<=409600000/\(yY p t fuel).1.nodes.length<=409600000:=by
 unfold yY;split
 .exact zKl hf t h0 hfu
 .simp[trz]
def kD(n:Int):Id:=⟨0,1,n⟩
def zQ1(n r:Int):Exp:=.mk (kD 15) 5 0 .zero .zero [.mk (kD 12) 4 5 .zero .zero [.mk (kD 11) 0 9 .zero .zero [] [],.mk (kD 10) 2 0 (kD 4) .zero [] []] [],.mk (kD 13) 0 r .zero .zero [] [],.mk (kD 14) 0 n .zero .zero [] []] []
def sH:Dfn:=⟨kD 1,4,.zero,⟨#[116]⟩,[⟨kD 3,⟨#[97]⟩,.zero,2,0⟩],.zero,.mk (kD 17) 3 0 (kD 2) .zero [.mk (kD 16) 2 0 (kD 3) .zero [] []] [],0,[]⟩
def tG(n r:Int):Dfn:=⟨kD 2,2,.zero,⟨#[102]⟩,[⟨kD 4,⟨#[120]⟩,.zero,0,0⟩],.zero,zQ1 n r,0,[]⟩
def exT(n r:Int):Prg:=⟨[],[sH,tG n r]⟩
theorem zWM(n r:Int):qM (exT n r).defs (kD 2)=some (tG n r):=by rfl
theorem fC{n r:Int}(h1 : -1099511627776<=n/\n<=1099511627776)(h2 : -1099511627776<=r/\r<=1099511627776):Fit (exT n r) ((exT n r).defs.map Dfn.hd):=by
 refine⟨rfl,by simp[exT],by simp[exT,sH,tG,kD],?_,?_,?_⟩
 .intro d hd;simp only[exT,jA3,jAr,or_false]at hd;rcases hd with rfl|rfl
  .exact⟨by simp[sH],by simp[sH],by simp[sH],by simp[sH],fun s hs=>by simp[sH]at hs;subst hs;exact .int _⟩
  .exact⟨by simp[tG],by simp[tG],by simp[tG],by simp[tG],fun s hs=>by simp[tG]at hs;subst hs;exact .int _⟩
 .intro d hd;simp only[exT,jA3,jAr,or_false]at hd;rcases hd with rfl|rfl
  .simp[sH]
  .simp[tG]
 .intro r' d hd hb;have hm:=(y8 hd).1;simp only[exT,jA3,jAr,or_false]at hm;rcases hm with rfl|rfl
  .show WE (exT n r) [⟨kD 3,0,jI⟩] (.mk (kD 17) 3 0 (kD 2) .zero [.mk (kD 16) 2 0 (kD 3) .zero [] []] []) jI;refine .call _ _ _ _ _ _ _ (by simp) (tG n r) (zWM n r) rfl rfl fun j hj=>?_
   have:j=0:=by simp at hj;omega
   subst this;exact .var _ _ _ _ _ _ _ (by simp[fG];rfl)
  .show WE (exT n r) [⟨kD 4,0,jI⟩] (zQ1 n r) jI;refine .ite _ _ _ _ _ _ _ _ _ _ (.op _ _ _ _ _ _ _ (by simp) [jI,jI] jV .less rfl fun j hj=>?_) (.int _ _ _ _ _ _ h2.1 h2.2) (.int _ _ _ _ _ _ h1.1 h1.2);have:j=0\/j=1:=by simp at hj;omega
   rcases this with rfl|rfl
   .exact .int _ _ _ _ _ _ (by decide) (by decide)
   .exact .var _ _ _ _ _ _ _ (by simp[fG])
theorem bO(n r:Int):FineP (exT n r):=by
 refine FineP.mk' (by simp[exT]) (by simp[exT]) fun d hd=>?_
 simp only[exT,jA3,jAr,or_false]at hd;rcases hd with rfl|rfl
 .exact⟨by simp[sH],by simp[sH],by simp[sH,Exp.nice,bC],by simp[sH,tmps,jG]⟩
 .exact⟨by simp[tG],by simp[tG],by simp[tG,zQ1,Exp.nice,bC],by simp[tG,zQ1,tmps,jG]⟩
theorem mL(n r:Int):j7 (exT n r)=[kD 1]:=by unfold j7;rw[n9 gR];rfl
theorem zNT(n r:Int):j7 (aY (exT n r))=[kD 1]:=by unfold j7;rw[n9 gR];rfl
def zIB:List wI:=[[.mk 0 0 []],[.mk 0 (-1) []],[.mk 0 1 []],[.mk 0 (-2) []],[.mk 0 2 []]]
theorem zWN(n r:Int):aZ (exT n r) sH.slots=(zIB,0):=by unfold aZ;rw[n9 rJ.ord];kernel_rfl
def sI:Trc:=⟨[kD 1,kD 2],[kD 10,kD 11,kD 12,kD 14,kD 15,kD 16,kD 17]⟩
theorem zIC(n r:Int):∀v∈zIB,yW (exT n r) (kD 1) v 50=⟨.mk 0 n [],sI.defs,sI.nodes,0⟩:=by intro v hv;simp only[zIB,jA3,jAr,or_false]at hv;rcases hv with rfl|rfl|rfl|rfl|rfl<;>(unfold yW;simp only[zI8,mH];kernel_rfl)
theorem zNU:bI trz sI=sI:=by unfold bI;simp only[mH];rfl
theorem zAE:bI sI sI=sI:=by unfold bI;simp only[mH];rfl
theorem zID{n:Int}(hd:zFa q (kD 1)=some d)(hi:aZ q d.slots=(zIB,0))(hc:∀v∈zIB,yW q (kD 1) v 50=⟨.mk 0 n [],sI.defs,sI.nodes,0⟩):yY q (kD 1) 50=(sI,0):=by
 have e:∀(xs:List wI) (acc:Trc),(∀v∈xs,v∈zIB)->(acc=trz/\xs≠[]\/acc=sI)->bH q (kD 1) 50 acc xs=(sI,0):=by
  intro xs;induction xs with
  |nil =>
   intro acc _ h;rcases h with ⟨_,h⟩|h
   .exact absurd rfl h
   .rw[bH,h]
  |cons x xs ih =>
   intro acc hx h;have hj:bI acc sI=sI:=by
    rcases h with ⟨h,_⟩|h
    .rw[h];exact zNU
    .rw[h];exact zAE
   rw[bH,hc x (hx x (jAp ..)),if_neg (by simp)];show bH q (kD 1) 50 (bI acc sI) xs=_;rw[hj];exact ih sI (fun v hv=>hx v (jAi _ hv)) (.inr rfl)
 have hh:bQ q (kD 1)=true:=by unfold bQ;rw[hd];rfl
 unfold yY iV;rw[if_pos hh,hd];simp only;rw[hi,if_neg (by simp)];exact e zIB trz (fun v hv=>hv) (.inl ⟨rfl,by simp[zIB]⟩)
theorem zDR(n r:Int):yY (exT n r) (kD 1) 50=(sI,0):=zID (d:=sH) rfl (zWN n r) (zIC n r)
theorem zUQ(n r:Int):yY (aY (exT n r)) (kD 1) 50=(sI,0):=zID (q:=aY (exT n r)) (d:=iP sH) rfl (by unfold aZ;rw[n9 rJ.ord];kernel_rfl) fun v hv=>by rw[zC1 (m7 _)];exact zIC n r v hv
theorem zDl(n r:Int):xH (exT 7 5) (exT 7 6)=[kD 13]/\xH (exT 7 5) (exT 8 5)=[kD 14]/\xH (exT 7 5) (exT 9 5)=[kD 14]:=by unfold xH;simp only[<-zAA,mH];exact⟨by kernel_rfl,by kernel_rfl,by kernel_rfl⟩
theorem mB(n r:Int):bQ (exT n r) (kD 1)=true/\bQ (aY (exT n r)) (kD 1)=true:=⟨rfl,rfl⟩
theorem zSJ:ofT (exT 7 5) (exT 7 6) (aY (exT 7 5)) (kD 1) 50=((false,false),0):=by have h:xH (exT 7 5) (aY (exT 7 5))=[]:=(zCk _).1;unfold ofT;rw[zDR,zDR,zUQ,(zDl 0 0).1,h,(mB 7 5).1,(mB 7 6).1,(mB 7 5).2];simp only[zAE];rfl
theorem zM7:ofT (exT 7 5) (exT 8 5) (aY (exT 7 5)) (kD 1) 50=((true,false),0):=by have h:xH (exT 7 5) (aY (exT 7 5))=[]:=(zCk _).1;unfold ofT;rw[zDR,zDR,zUQ,(zDl 0 0).2.1,h,(mB 7 5).1,(mB 8 5).1,(mB 7 5).2];simp only[zAE];rfl
theorem zSK:ofT (exT 7 5) (exT 8 5) (exT 9 5) (kD 1) 50=((true,true),0):=by unfold ofT;rw[zDR,zDR,zDR,(zDl 0 0).2.1,(zDl 0 0).2.2,(mB 7 5).1,(mB 8 5).1,(mB 9 5).1];simp only[zAE];rfl
theorem zSL:ofT (exT 7 5) (exT 7 5) (exT 7 5) (kD 2) 50=((false,false),6):=by
 have h:bQ (exT 7 5) (kD 2)=false:=rfl;have hs:yY (exT 7 5) (kD 2) 50=(trz,0):=by unfold yY;rw[if_neg (by rw[h];simp)]
 unfold ofT;rw[hs,h];rfl
theorem zM8:aP ([kD 1]++[kD 1]++[kD 1])=[kD 1]:=by rw[mH];rfl
theorem zSH:fV (exT 7 5) (exT 8 5) (aY (exT 7 5)) 50=[]:=by unfold fV;rw[mL,mL,zNT,zM8];simp[lS,zM7]
theorem zSI:fV (exT 7 5) (exT 8 5) (exT 9 5) 50=[kD 1]:=by unfold fV;rw[mL,mL,mL,zM8];simp[lS,zSK]
def zPE:K:=G [kO 3 0,kO 4 1,kZ 6 [kl,kl],kMi 7 0] (G [J 19 3 2,J 20 4 3,kC 21 44 [(kt 19),(kt 20)],M 18 21,kE 22 18 0,kE 23 18 1,kZ 8 kz0,S 8 22 31,M 9 23] (Z (G [M 24 9,kR 25 24] (Y 25 (G [kb 26 [kl,kl] [],S 6 26 2,kMi 7 6] kr) ks)) (G [J 28 3 2,D 29 8 8,L 30 29 1,kC 31 31 [(kt 28),(kt 30)],M 27 31,kE 32 27 0,kE 33 27 1,M 10 32,M 11 33] (Z (G [M 34 11,kQi 35 34 0 true] (Y 35 (G [kb 36 [kl,kl] [],M 37 11,S 6 36 2,M 7 37] kr) ks)) (G [kZ 12 [kl,kl]] (Z (G [M 38 10,kN 39 38,kMi 40 0] (K.block 0 (K.loop (G [kB 41 40 39 .lss] (Z (Y 41 ks (K.exit 0)) (Z (K.block 1 (G [kX 42 38 40 1,L 43 42 1,M 14 43] (G [J 45 3 2,J 46 4 3,M 47 14,M 48 2,kC 49 45 [(kt 45),(kt 46),(kt 47),(kt 48)],M 44 49,kE 50 44 0,kE 51 44 1,kE 52 44 2,kZ 15 [ki,ki,kl],kZ 16 [kl,kl],S 15 50 3,S 16 51 2,M 17 52] (Z (G [M 53 17,kQi 54 53 0 true] (Y 54 (G [kb 55 [kl,kl] [],M 56 17,S 6 55 2,M 7 56] kr) ks)) (K.ops [J 57 12 2,J 58 16 2,kC 59 46 [(kt 57),(kt 58)],S 12 59 2]))))) (K.ops [kBi 60 40 1 .add,M 40 60]))))))) (G [J 61 12 2,S 6 61 2,kMi 7 0] kr)))))))
theorem zWd:ky f15 zPE:=m_ (by kernel_rfl)
def nU(r:Trc×Int):A:=.tup [.agg (yM r.1),int r.2]
theorem zHQ(p:Prg)(t:Id)(fuel:Int){X:List wI}(h:i<X.length)(acc:Trc):bH p t fuel acc (X.drop i) =
 if (yW p t X[i] fuel).e≠0 then (trz,(yW p t X[i] fuel).e)else bH p t fuel (bI acc ⟨(yW p t X[i] fuel).ds,(yW p t X[i] fuel).ns⟩) (X.drop (i+1)):=by
 rw[jBb h,bH]
theorem zCn(hf:Fit p hs)(t:Id)(fuel:Int)(h0:0<=fuel)(hfu:fuel<=90000):my 15 [.agg (zI p),.agg (zX t),int fuel] [] (nU (iV p t fuel)) []:=by
 have hP:=eP p;have hh:=zDv p t;have hsm:Sml p:=fun d hd=>by have:=(hf.slots d hd).2.1;omega
 refine zG func15 rfl zWd (rs:=[.cell 6 2 true,.slot 7]) (by kernel_rfl) ?_;unfold zPE;simp[hP];refine mu hh (by simp[hP,zX,zQE]) ?_;unfold zQE bQ iV;cases hd:zFa p t with
 |none =>
  generalize (qM p.defs t).getD .zero=d;simp[zQ];exact zC 0 (by simp[nU,trz,yM])
 |some d =>
  obtain⟨hfd,hk⟩:=zLZ hd;have hri:=zOt p hsm d.slots (by have:=(hf.slots d (y8 hfd).1).2.1;omega);have hsml:=fun x hx=>zHt (p:=p) (l:=d.slots) (x:=x) hx
  have hmany:=zCH p d.slots;rw[hfd];simp only[jCn];generalize aZ p d.slots=R at *
  simp[zQ];refine mu hri (by simp[hP]) ?_;by_cases he:R.2=0
  .rw[show (if R.2=0 then bH p t fuel trz R.1 else (trz,R.2))=bH p t fuel trz R.1 from if_pos he];generalize R.1=X at *
   simp[he];intro hl;refine qH (S:=Nat×Trc) (fun s=>[(2,int fuel),(3,.ptr 0 0),(4,.ptr 1 0),(6,.ptr 2 0),(12,.ptr 3 0),(38,.sl X.length (qX X)),(39,int X.length),(40,int s.1)])
    (fun s=>[.box (zI p),.box (zX t),.box (yM trz),.box (yM s.2)])
    (fun s=>s.1<=X.length/\bH p t fuel trz X=bH p t fuel s.2 (X.drop s.1)/\s.2.defs.length<=100000*s.1/\s.2.nodes.length<=100000*s.1) (fun s=>X.length-s.1) (0,trz) ⟨by simp,by simp,by simp[trz],by simp[trz]⟩
    (mw [0,1,2,4] 0 (by rfl) (by simp[hP,zX,yM,trz])) ?_
   rintro⟨i,acc⟩ ⟨hi,hgo,hl1,hl2⟩;simp only at hi hgo hl1 hl2;by_cases h:i<X.length
   .have rc:=zRJ hf t X[i] fuel hfu (hsml _ (jA0 h));obtain⟨c1,c2⟩:=zDC hf t X[i] h0 hfu;rw[zHQ p t fuel h]at hgo;have hcd:=zIz h;have hne:¬X=[]:=fun e=>by rw[e]at h;simp at h
    have hw:=zY h hl;generalize yW p t X[i] fuel=r at *
    generalize X[i]=x at *
    simp[hP,zX,h,hcd,hne];refine mu rc (by simp[hP,zX,mU,z7]) ?_;by_cases hr:r.e=0
    .rw[if_neg (by simp[hr])]at hgo;have rj:=zHx acc ⟨r.ds,r.ns⟩ (by simp only;omega) (by simp only;omega);have j1:=cI (acc.defs++r.ds);have j2:=cI (acc.nodes++r.ns);simp only[jA4]at j1 j2;simp[mU,z7,hr,yM];refine mu rj (by simp[yM]) ?_;simp[yM];exact zN (i+1,bI acc ⟨r.ds,r.ns⟩) ⟨h,hgo,by simp only[bI];omega,by simp only[bI];omega⟩ (by simp only;omega) (mw [0,1,2,3] 0 (by rfl) (by simp[hP,zX,yM,trz,bI,hw]))
    .rw[if_pos hr]at hgo;rw[hgo];simp[mU,z7,hr,yM];exact zC 0 (by simp[nU,yM,trz])
   .have hie:i=X.length:=by omega
    subst hie;rw[List.drop_length,bH]at hgo;rw[hgo];simp[hP,zX,yM];exact zC 0 (by simp[nU,yM])
  .rw[show (if R.2=0 then bH p t fuel trz R.1 else (trz,R.2))=(trz,R.2) from if_neg he];simp[he];exact zC 0 (by simp[nU,yM,trz])
def zUn:K:=G [kO 1 0,kZ 2 [kl,kl]] (G [D 9 1 0,L 10 9 1,kb 11 [kl,kl] [(0,1,(kt 10))],kZ 3 [kl,kl],S 3 11 2] (Z (G [kMi 4 0] (K.block 0 (K.loop (Z (G [M 12 4,D 13 1 1,L 14 13 1,kN 15 14,kB 16 12 15 .lss] (Y 16 ks (K.exit 0))) (Z (K.block 1 (G [D 19 1 1,L 20 19 1,M 21 4,kX 22 20 21 31,J 23 22 31,kZ 5 kz0,S 5 23 31] (G [D 24 5 7,L 25 24 1,⟨none,.bin (some 26) .add (kt 25) (.const (.string ⟨#[122]⟩))⟩,D 27 5 7,S 27 26 1] (G [D 28 5 29,L 29 28 1,kBi 30 29 3 .add,D 31 5 29,S 31 30 1] (G [D 32 5 30,⟨none,.st none (kt 32) (.const kl) 1⟩] (G [kMn 6] (Z (G [kMi 7 0] (K.block 2 (K.loop (Z (G [M 33 7,D 34 5 8,L 35 34 1,kN 36 35,kB 37 33 36 .lss] (Y 37 ks (K.exit 2))) (Z (K.block 3 (G [D 40 5 8,L 41 40 1,M 42 7,kX 43 41 42 11,J 44 43 11,kZ 8 kz5,S 8 44 11] (G [D 45 8 3,L 46 45 1,⟨none,.bin (some 47) .add (kt 46) (.const (.string ⟨#[122]⟩))⟩,D 48 8 3,S 48 47 1] (K.ops [M 49 6,J 50 8 11,kd 51 74 11 1 kz5 [(0,11,(kt 50))],kP 52 74 11 112 49 51,M 6 52])))) (K.ops [M 38 7,kBi 39 38 1 .add,M 7 39])))))) (Z (K.wk (K.ops [M 53 6,D 54 5 8,S 54 53 1])) (K.ops [D 55 3 1,L 56 55 1,J 57 5 31,kd 58 42 31 1 kz0 [(0,31,(kt 57))],kP 59 42 31 352 56 58,D 60 3 1,S 60 59 1]))))))))) (K.ops [M 17 4,kBi 18 17 1 .add,M 4 18])))))) (G [J 61 3 2,S 2 61 2] kr)))
theorem qBW:ky f24 zUn:=m_ (by kernel_rfl)
def zUy:K:=G [kO 2 0,kO 3 1,kZ 4 [kl,kl]] (G [D 7 2 0,L 8 7 1,kb 9 [kl,kl] [(0,1,(kt 8))],kZ 5 [kl,kl],S 5 9 2] (Z (G [kMi 6 0] (K.block 0 (K.loop (Z (G [M 10 6,D 11 2 1,L 12 11 1,kN 13 12,kB 14 10 13 .lss] (Y 14 ks (K.exit 0))) (Z (K.block 1 (Z (K.dops [(0,0,D 17 2 1),(1,0,L 18 17 1),(2,0,M 19 6),(3,0,kX 20 18 19 31),(4,0,D 21 20 0),(5,0,J 22 21 3),(6,0,J 23 3 3),(7,0,⟨none,.eqs (some 24) true [.i,.i,.i] (kt 22) (kt 23)⟩)]) (Y 24 (K.dops [(0,0,D 25 5 1),(1,0,L 26 25 1),(2,0,D 27 2 1),(3,0,L 28 27 1),(4,0,M 29 6),(5,0,kX 30 28 29 31),(6,0,J 31 30 31),(7,0,kd 32 42 31 1 kz0 [(0,31,(kt 31))]),(8,0,kP 33 42 31 352 26 32),(9,0,D 34 5 1),(10,0,S 34 33 1)]) ks))) (K.ops [M 15 6,kBi 16 15 1 .add,M 6 16])))))) (G [J 35 5 2,S 4 35 2] kr)))
theorem qCk:ky f27 zUy:=m_ (by kernel_rfl)
def zUk:K:=G [kO 1 0,kMn 2] (G [kMn 3] (Z (G [kMi 4 0] (K.block 0 (K.loop (Z (G [M 5 4,D 6 1 1,L 7 6 1,kN 8 7,kB 9 5 8 .lss] (Y 9 ks (K.exit 0))) (Z (K.block 1 (G [D 12 1 1,L 13 12 1,M 14 4,kX 15 13 14 31,D 16 15 3,L 17 16 1,kQi 18 17 4 false] (Y 18 (K.ops [M 19 3,D 20 1 1,L 21 20 1,M 22 4,kX 23 21 22 31,D 24 23 0,J 25 24 3,kC 26 41 [(kt 19),(kt 25)],M 3 26]) ks))) (K.ops [M 10 4,kBi 11 10 1 .add,M 4 11])))))) (G [M 27 3,M 2 27] kr)))
theorem qBT:ky f11 zUk:=m_ (by kernel_rfl)
theorem zsz:(⟨#[122]⟩:ByteArray).size=1:=rfl
theorem zGZ{D:wS}{x:Dfn}(h:D[i]?=some x):zV (D.take (i+1))=zV (D.take i)++zQ x:=by obtain⟨hi,rfl⟩:=jA5.1 h;rw[jA8 hi,vO];simp[sS]
theorem zHa{D:List Slt}{x:Slt}(h:D[i]?=some x):qW (D.take (i+1))=qW (D.take i)++aD x:=by obtain⟨hi,rfl⟩:=jA5.1 h;rw[jA8 hi,zFv];simp[zC6]
theorem zHH(p:Prg)(hL:p.defs.length<=100)(hs:∀d∈p.defs,d.slots.length<=100)(hn:∀d∈p.defs,NmD d):my 24 [.agg (zI p)] [] (.agg (zI (aY p))) []:=by
 have hP:=eP p;have hz:=zsz;obtain⟨D,hD⟩:∃D,D=p.defs.map iP:=⟨_,rfl⟩;have hDl:D.length=p.defs.length:=by rw[hD,jAa]
 have hDg:∀(i:Nat) (h:i<p.defs.length),D[i]?=some (iP p.defs[i]):=fun i h=>by rw[hD,jBn,jA2 h];rfl
 have hres:zI (aY p)=[.sl p.mods.length (qC p.mods),.sl p.defs.length (zV D)]:=by rw[hD];simp[zI,aY]
 rw[hres];clear hD;refine zG func24 rfl qBW (rs:=[.cell 2 2 true]) (by kernel_rfl) ?_;unfold zUn;simp[hP];refine qH (S:=Nat) (fun i=>[(1,.ptr 0 0),(2,.ptr 1 0),(3,.ptr 2 0),(4,int i)])
  (fun i=>[.box (zI p),.box [.nil,.nil],.box [.sl p.mods.length (qC p.mods),.row 3 i],.row false 42 31 i (zV (D.take i))]) (fun i=>i<=p.defs.length) (fun i=>p.defs.length-i) 0 (by simp)
  ((yI (l:=2) (o:=1) rfl rfl 42 31).trans (mw [0,1,2,3] 0 (by rfl) (by simp[hP]))) ?_
 intro i hi;by_cases h:i<p.defs.length
 .have hcd:=j5 h;have hdg:=hDg i h;obtain⟨hd1,hd2⟩:=hn _ (jA0 h);have hds:=hs _ (jA0 h);have hne:¬p.defs=[]:=fun e=>by rw[e]at h;simp at h
  have hw:=yU i (by omega);generalize p.defs[i]=d at *
  obtain⟨SS,hSS⟩:∃SS,SS=d.slots.map zEF:=⟨_,rfl⟩;have hSl:SS.length=d.slots.length:=by rw[hSS,jAa]
  have hSg:∀(i:Nat) (h:i<d.slots.length),SS[i]?=some (zEF d.slots[i]):=fun i h=>by rw[hSS,jBn,jA2 h];rfl
  have hrd:iP d=⟨d.id,d.kind,d.mod,d.name++⟨#[122]⟩,SS,d.res,d.body,w64 (d.place+3),[]⟩:=by rw[hSS];rfl
  rw[hrd]at hdg;clear hSS hrd;have hts:=zGZ hdg;have hm31:i*31+31<=p.defs.length*31:=by omega
  simp[h,hcd,hne,zQ,hP]
  intros
  refine⟨by omega,?_⟩;refine qH (S:=Nat) (fun k=>[(1,.ptr 0 0),(2,.ptr 1 0),(3,.ptr 2 0),(4,int i),(5,.ptr 4 0),(6,.row 5 k),(7,int k)])
   (fun k=>[.box (zI p),.box [.nil,.nil],.box [.sl p.mods.length (qC p.mods),.row 3 i],.row false 42 31 i (zV (D.take i)),.box (zQ ⟨d.id,d.kind,d.mod,d.name++⟨#[122]⟩,d.slots,d.res,d.body,w64 (d.place+3),[]⟩),.row false 74 11 k (qW (SS.take k))])
   (fun k=>k<=d.slots.length) (fun k=>d.slots.length-k) 0 (by simp)
   ((jS (t:=6) (by simp) 74 11).trans (mw [0,1,2,3,4,5] 0 (by rfl) (by simp[hP,zQ,w64]))) ?_
  intro k hk;by_cases h2:k<d.slots.length
  .have hcs:=jN h2;have hsg:=hSg k h2;have hsz:=hd2 _ (jA0 h2);have hne2:¬d.slots=[]:=fun e=>by rw[e]at h2;simp at h2
   have hw2:=yU k (by omega);generalize d.slots[k]=s at *
   have hrs:zEF s=⟨s.id,s.name++⟨#[122]⟩,s.typ,s.most,s.place⟩:=rfl;rw[hrs]at hsg;have hts2:=zHa hsg;simp[h2,hcs,hne2,aD,hP,zQ]
   intros
   refine⟨by omega,?_⟩;refine⟨⟨by simp[maxLen];omega,by omega⟩,?_⟩;exact zN (k+1) h2 (by omega) (mw [0,1,2,3,4,5] 0 (by rfl) (by simp[hP,hts2,aD,zQ,hw2]))
  .have hke:k=d.slots.length:=by omega
   subst hke;have hall:SS.take d.slots.length=SS:=jAh (by omega);rw[hall];simp[zQ]
   intros
   refine⟨_,_,zL (l:=[(1,.ptr 0 0),(2,.ptr 1 0),(3,.ptr 2 0),(4,int i),(5,.ptr 4 0),(6,.sl d.slots.length (qW SS))])
    (U':=[.box (zI p),.box [.nil,.nil],.box [.sl p.mods.length (qC p.mods),.row 3 i],.row false 42 31 i (zV (D.take i)),.box (zQ ⟨d.id,d.kind,d.mod,d.name++⟨#[122]⟩,d.slots,d.res,d.body,w64 (d.place+3),[]⟩)]) [0,1,2,3,4] 1 (by simp) (by decide) (by simp[hP,zQ]) (by simp),?_⟩
   simp[zQ];refine⟨⟨by simp[maxLen];omega,by omega⟩,?_⟩;exact zN (i+1) h (by omega) (mw [0,1,2,3] 0 (by rfl) (by simp[hP,hts,zQ,hSl,hw]))
 .have hie:i=p.defs.length:=by omega
  subst hie;have hall:D.take p.defs.length=D:=jAh (by omega);rw[hall];simp[hP]
  intros
  exact zC 1 (by simp)
def woD(t:Id)(l:wS):wS:=l.filter fun d=>decide (d.id≠t)
@[simp]theorem qH6(t:Id):woD t []=[]:=rfl
theorem zHU{l:wS}(h:i<l.length):woD t (l.take (i+1))=woD t (l.take i)++(if l[i].id=t then []else [l[i]]):=by unfold woD;rw[jA8 h,jCs];by_cases h2:l[i].id=t<;>simp[h2]
theorem zHT(p:Prg)(hL:p.defs.length<=100)(t:Id):my 27 [.agg (zI p),.agg (zX t)] [] (.agg (zI (woP p t))) []:=by
 have hP:=eP p;refine zG func27 rfl qCk (rs:=[.cell 4 2 true]) (by kernel_rfl) ?_;unfold zUy;simp[hP];refine qH (S:=Nat) (fun i=>[(2,.ptr 0 0),(3,.ptr 1 0),(4,.ptr 2 0),(5,.ptr 3 0),(6,int i)])
  (fun i=>[.box (zI p),.box (zX t),.box [.nil,.nil],.box [.sl p.mods.length (qC p.mods),.row 4 (woD t (p.defs.take i)).length],.row false 42 31 (woD t (p.defs.take i)).length (zV (woD t (p.defs.take i)))])
  (fun i=>i<=p.defs.length) (fun i=>p.defs.length-i) 0 (by simp)
  ((yI (l:=3) (o:=1) rfl rfl 42 31).trans (mw [0,1,2,3,4] 0 (by rfl) (by simp[hP,zX]))) ?_
 intro i hi;have hfl:(woD t (p.defs.take i)).length<=i:=jB1 (jBg _ _) (by simp;omega);by_cases h:i<p.defs.length
 .have hcd:=j5 h;have hts:=zHU (t:=t) h;have hne:¬p.defs=[]:=fun e=>by rw[e]at h;simp at h
  have hw:=yU i (by omega);generalize woD t (p.defs.take i)=L at *
  generalize p.defs[i]=d at *
  by_cases hx:d.id=t
  .rw[if_pos hx,jAs]at hts;simp[h,hcd,hne,zQ,hP,zX,hx]
   intros
   exact zN (i+1) h (by omega) (mw [0,1,2,3,4] 0 (by rfl) (by simp[hP,hts,zX,hw]))
  .rw[if_neg hx]at hts;simp[h,hcd,hne,zQ,hP,zX,hx]
   intros
   refine⟨⟨by simp[maxLen];omega,by omega⟩,?_⟩;exact zN (i+1) h (by omega) (mw [0,1,2,3,4] 0 (by rfl) (by simp[hP,hts,zX,vO,sS,zQ,hw]))
 .have hie:i=p.defs.length:=by omega
  subst hie;rw[jB2];simp[hP]
  intros
  exact zC 1 (by simp[zI,show woP p t=⟨p.mods,woD t p.defs⟩ from rfl])
theorem zOR(p:Prg)(hL:p.defs.length<=100):my 11 [.agg (zI p)] [] (.sl (aP (gZ p)).length (zS (aP (gZ p)))) []:=by
 have hP:=eP p;refine zG func11 rfl qBT (rs:=[.slot 2]) (by kernel_rfl) ?_;unfold zUk;simp[hP];refine qH (S:=Nat) (fun i=>[(1,.ptr 0 0),(3,.sl (aP (tsD (p.defs.take i))).length (zS (aP (tsD (p.defs.take i))))),(4,int i)])
  (fun i=>[.box (zI p)]) (fun i=>i<=p.defs.length) (fun i=>p.defs.length-i) 0 (by simp)
  (mw [0] 0 (by rfl) (by simp[hP,mH])) ?_
 intro i hi;have hle:=jB1 (cI (tsD (p.defs.take i))) (oA (p.defs.take i));rw[jAv]at hle;by_cases h:i<p.defs.length
 .have hcd:=j5 h;have hts:=zKn h;have hss:=i7 (tsD (p.defs.take i));have hne:¬p.defs=[]:=fun e=>by rw[e]at h;simp at h
  have hw:=yU i (by omega);have hsn:=zOU (tsD (p.defs.take i)) p.defs[i].id;generalize tsD (p.defs.take i)=L at *
  generalize p.defs[i]=d at *
  by_cases hk:d.kind=4
  .rw[if_pos hk]at hts;have hi17:=zQN hss d.id (by omega);generalize aP L=X at *
   simp[h,hcd,hne,zQ,hP,hk]
   intros
   refine mu hi17 (by simp[zX]) ?_;simp;exact zN (i+1) h (by omega) (mw [0] 0 (by rfl) (by simp[hP,hw,hts,hsn]))
  .rw[if_neg hk,jAs]at hts;simp[h,hcd,hne,zQ,hP,hk]
   intros
   exact zN (i+1) h (by omega) (mw [0] 0 (by rfl) (by simp[hP,hw,hts]))
 .have hie:i=p.defs.length:=by omega
  subst hie;rw[jB2];simp[hP]
  intros
  exact zC 0 (by simp[show gZ p=tsD p.defs from rfl])
theorem SameI.trans{r:Prg}(h:SameI p q)(k:SameI q r):SameI p r :=
 ⟨fun t=>(k.valid t).trans (h.valid t),fun x=>(k.kind x).trans (h.kind x),fun x=>(k.types x).trans (h.types x)⟩
theorem zIp(hA:lN p q)(id:Id)(vs:wI)(fuel:Int):vL q id vs fuel=vL p id vs fuel:=by
 unfold vL;rcases lF hA id with ⟨h1,h2⟩|⟨d,d',h1,h2,h⟩
 .rw[h1,h2]
 .rw[h1,h2];have hm:d'.slots.map Slt.typ=d.slots.map Slt.typ:=h.slots.map fun _ _ h=>h.typ
  simp only[eU,h.kind,h.slots.len,hm,nW (lN.to0 hA),nI,zBi (lN.to0 hA) h.slots,xE (zAa hA 1 fuel.toNat) h];rfl
theorem zEN(a d:Dfn):aU a (iP d)=aU a d:=by
 have h:∀(l m:List Slt),bX m8 l (m.map zEF)=bX m8 l m:=by
  intro l;induction l with
  |nil=>intro m;cases m<;>rfl
  |cons x l ih=>intro m;cases m with
   |nil=>rfl
   |cons y m=>simp only[jAc,bX,ih];rfl
 simp only[aU,iP,h];rfl
theorem zIG(q:Prg)(x:Id):qM (aY q).defs x=(qM q.defs x).map iP:=by show List.find? _ (q.defs.map iP)=(List.find? _ q.defs).map iP;rw[List.find?_map];rfl
theorem zSz(b q:Prg):∀x∈xH b q,x∈xH b (aY q):=by
 intro x hx;unfold xH at *
 rw[<-zAA,aQ,zGo]at hx ⊢;have hn:jZ (aY q).defs=jZ q.defs:=by unfold jZ aY;rw[List.flatMap_map];rfl
 rw[hn];have hl:∀y,yZ Dfn.id (aY q).defs y=(yZ Dfn.id q.defs y).map iP:=fun y=>zIG q y
 have h1:∀y,y∈zBf Dfn.id aU b.defs q.defs->y∈zBf Dfn.id aU b.defs (aY q).defs:=fun y hy=>by rw[lJ]at hy ⊢;obtain⟨a,ha,hb⟩:=hy;refine⟨a,ha,fun b' hb'=>?_⟩;rw[hl,jAe]at hb';obtain⟨c,hc,rfl⟩:=hb';rw[zEN];exact hb c hc
 have h2:∀y,y∈zBf Dfn.id aU q.defs b.defs->y∈zBf Dfn.id aU (aY q).defs b.defs:=fun y hy=>by rw[lJ]at hy ⊢;obtain⟨a,ha,hb⟩:=hy;refine⟨iP a,by rw[hl,ha];rfl,fun b' hb'=>?_⟩;rw[nY,zEN,nY];exact hb b' hb'
 simp only[jA6]at hx ⊢;rcases hx with (hx|hx)|(hx|hx)
 .exact .inl (.inl (h1 x hx))
 .exact .inl (.inr hx)
 .exact .inr (.inl (h2 x hx))
 .exact .inr (.inr hx)
def zPJ(b q:Prg):Prop:=∃q0,TwP b q0/\(q=q0\/q=aY q0)
theorem zPJ.call{b:Prg}(h:zPJ b q)(hp:NdN b)(hd:qM b.defs t=some d)(hk:eV d.kind=true)(vs:wI)(f:Int)(ho:∀x∈(yW b t vs f).ns,x∉xH b q) :
 yW q t vs f=yW b t vs f/\vL q t vs f=vL b t vs f:=by
 obtain⟨q0,h0,rfl|rfl⟩:=h
 .exact TwP.call h0 hp hd hk vs f ho
 .have:=TwP.call h0 hp hd hk vs f fun x hx hc=>ho x hx (zSz b q0 x hc)
  rw[zC1 (m7 q0),zIp (m7 q0)];exact this
def zUq:K:=G [kO 5 0,kO 6 1,kO 7 2,kO 8 3,kZ 10 [(.bool false),(.bool false)],kMi 11 0] (G [kZ 12 [kl,kl,kl,kl,kl,kl]] (G [kZ 13 [(.bool false),(.bool false),(.bool false)]] (Z (G [J 20 5 2,J 21 6 2,J 22 7 2,kd 23 26 2 3 [kl,kl,kl,kl,kl,kl] [(0,2,(kt 20)),(2,2,(kt 21)),(4,2,(kt 22))],kN 24 23,kMi 25 0] (K.block 0 (K.loop (G [kB 26 25 24 .lss] (Z (Y 26 ks (K.exit 0)) (Z (K.block 1 (G [M 27 25,kX 28 23 25 2,J 29 28 2,kZ 15 [kl,kl],M 14 27,S 15 29 2] (Z (G [M 31 14,J 32 15 2,J 33 8 3,kC 34 44 [(kt 32),(kt 33)],M 30 34,kE 35 30 0,kE 36 30 1,⟨none,.idxarr (some 37) (kt 13) (kt 31) 3 1⟩,S 37 36 1] (G [M 38 14,⟨none,.idxarr (some 39) (kt 13) (kt 38) 3 1⟩,L 40 39 1,kR 41 40] (Y 41 (K.exit 1) ks))) (G [J 43 15 2,J 44 8 3,M 45 4,kC 46 15 [(kt 43),(kt 44),(kt 45)],M 42 46,kE 47 42 0,kE 48 42 1,kZ 16 [kl,kl],S 16 47 2,M 17 48] (Z (G [M 49 17,kQi 50 49 0 true] (Y 50 (G [kb 51 [(.bool false),(.bool false)] [],M 52 17,S 10 51 2,M 11 52] kr) ks)) (K.ops [M 53 14,J 54 16 2,⟨none,.idxarr (some 55) (kt 12) (kt 53) 3 2⟩,S 55 54 2])))))) (K.ops [kBi 56 25 1 .add,M 25 56]))))))) (Z (G [J 57 13 3,kb 58 [(.bool false),(.bool false),(.bool false)] [],⟨none,.eqs (some 59) false [.b,.b,.b] (kt 57) (kt 58)⟩] (Y 59 (G [kb 60 [(.bool false),(.bool false)] [],S 10 60 2,kMi 11 6] kr) ks)) (Z (K.dops [(0,0,J 61 5 2),(1,0,J 62 6 2),(2,0,kC 63 25 [(kt 61),(kt 62)]),(3,0,J 64 5 2),(4,0,J 65 7 2),(5,0,kC 66 25 [(kt 64),(kt 65)]),(6,0,M 18 63),(7,0,
 M 19 66)]) (Z (K.dops [(0,0,⟨none,.idxarr (some 67) (kt 12) (kc 0) 3 2⟩),(1,0,J 68 67 2),(2,0,⟨none,.idxarr (some 69) (kt 12) (kc 2) 3 2⟩),(3,0,J 70 69 2),(4,0,kC 71 46 [(kt 68),(kt 70)]),(5,0,M 72 18),(6,0,kC 73 53 [(kt 71),(kt 72)]),(7,0,M 74 73),(8,0,T 74 false (J 75 13 3)),(9,0,⟨some (74,false),.build (some 76) [(.bool false),(.bool false),(.bool false)] [(0,1,(.const (.bool false))),(1,1,(.const (.bool true))),(2,1,(.const (.bool false)))]⟩),(10,0,⟨some (74,false),.eqs (some 77) false [.b,.b,.b] (kt 75) (kt 76)⟩),(11,0,kPt 78 74 77),(12,0,⟨none,.idxarr (some 79) (kt 12) (kc 0) 3 2⟩),(13,0,J 80 79 2),(14,0,⟨none,.idxarr (some 81) (kt 12) (kc 1) 3 2⟩),(15,0,J 82 81 2),(16,0,kC 83 46 [(kt 80),(kt 82)]),(17,0,M 84 19),(18,0,kC 85 53 [(kt 83),(kt 84)]),(19,0,M 86 85),(20,0,T 86 false (J 87 13 3)),(21,0,⟨some (86,false),.build (some 88) [(.bool false),(.bool false),(.bool false)] [(0,1,(.const (.bool false))),(1,1,(.const (.bool false))),(2,1,(.const (.bool true)))]⟩),(22,0,⟨some (86,false),.eqs (some 89) false [.b,.b,.b] (kt 87) (kt 88)⟩),(23,0,kPt 90 86 89),(24,0,kb 91 [(.bool false),(.bool false)] [(0,1,(kt 78)),(1,1,(kt 90))]),(25,0,S 10 91 2),(26,0,kMi 11 0)]) kr))))))
theorem qCa:ky f20 zUq:=m_ (by kernel_rfl)
@[simp]theorem qG5{a b c a' b' c':Bool}:zBJ [.b,.b,.b] false (.agg [.lit (.bool a),.lit (.bool b),.lit (.bool c)]) (.agg [.lit (.bool a'),.lit (.bool b'),.lit (.bool c')])=some (.lit (.bool ((a==a')&&((b==b')&&(c==c'))))):=by cases a<;>cases b<;>cases c<;>cases a'<;>cases b'<;>cases c'<;>simp[zBJ,yE,eM,cK]
@[simp]theorem qG4{a b a' b':Bool}:zBJ [.b,.b] false (.agg [.lit (.bool a),.lit (.bool b)]) (.agg [.lit (.bool a'),.lit (.bool b')])=some (.lit (.bool ((a==a')&&(b==b')))):=by cases a<;>cases b<;>cases a'<;>cases b'<;>simp[zBJ,yE,eM,cK]
def tB(r:(Bool×Bool)×Int):A:=.tup [.agg [bl r.1.1,bl r.1.2],int r.2]
def oR(b l r:Trc×Int)(i:Nat):wF:=yM (if 0<i then b.1 else trz)++yM (if 1<i then l.1 else trz)++yM (if 2<i then r.1 else trz)
def ofI(b l r:Trc×Int)(i:Nat):Prop:=i<=3/\(0<i->b.2=0)/\(1<i->l.2=0)/\(2<i->r.2=0)
def iU(b l r:Bool)(i:Nat):wF:=[bl (decide (0<i)&&b),bl (decide (1<i)&&l),bl (decide (2<i)&&r)]
theorem oN{b l r:Prg}{hb hl hr:wQ}(fb:Fit b hb)(fl:Fit l hl)(fr:Fit r hr)(nb:FineP b)(nl:FineP l)(nr:FineP r)(t:Id)(fuel:Int)(h0:0<=fuel)(hfu:fuel<=90000) :
 my 20 [.agg (zI b),.agg (zI l),.agg (zI r),.agg (zX t),int fuel] [] (tB (ofT b l r t fuel)) []:=by
 have hPb:zI b=[.sl b.mods.length (qC b.mods),.sl b.defs.length (zV b.defs)]:=rfl;have hPl:zI l=[.sl l.mods.length (qC l.mods),.sl l.defs.length (zV l.defs)]:=rfl;have hPr:zI r=[.sl r.mods.length (qC r.mods),.sl r.defs.length (zV r.defs)]:=rfl;have wb:=zDv b t;have wl:=zDv l t;have wr:=zDv r t;have tb:=zCn fb t fuel h0 hfu;have tl:=zCn fl t fuel h0 hfu;have tr:=zCn fr t fuel h0 hfu;have kb:=zAk fb t h0 hfu;have kl:=zAk fl t h0 hfu;have kr:=zAk fr t h0 hfu;have c1:=xG b l nb.small.1 nl.small.1 nb.small.2.1 nl.small.2.1;have c2:=xG b r nb.small.1 nr.small.1 nb.small.2.1 nr.small.2.1;have sb:yY b t fuel=if bQ b t then iV b t fuel else (trz,0):=rfl
 have sl:yY l t fuel=if bQ l t then iV l t fuel else (trz,0):=rfl
 have sr:yY r t fuel=if bQ r t then iV r t fuel else (trz,0):=rfl
 have hof:ofT b l r t fuel=if (yY b t fuel).2≠0 then ((false,false),(yY b t fuel).2)
  else if (yY l t fuel).2≠0 then ((false,false),(yY l t fuel).2)
  else if (yY r t fuel).2≠0 then ((false,false),(yY r t fuel).2)
  else if (!bQ b t&&!bQ l t&&!bQ r t)=true then ((false,false),6)
  else ((mR (bI (yY b t fuel).1 (yY r t fuel).1) (l9 b.defs l.defs)||(!bQ b t&&bQ l t&&!bQ r t),mR (bI (yY b t fuel).1 (yY l t fuel).1) (l9 b.defs r.defs)||(!bQ b t&&!bQ l t&&bQ r t)),0):=rfl
 rw[hof];clear hof;unfold zQE at wb wl wr;generalize (qM b.defs t).getD .zero=db at *
 generalize (qM l.defs t).getD .zero=dl at *
 generalize (qM r.defs t).getD .zero=dr at *
 generalize bQ b t=xb at *
 generalize bQ l t=xl at *
 generalize bQ r t=xr at *
 generalize iV b t fuel=vb at *
 generalize iV l t fuel=vl at *
 generalize iV r t fuel=vr at *
 generalize yY b t fuel=zb at *
 generalize yY l t fuel=zl at *
 generalize yY r t fuel=zr at *
 generalize l9 b.defs l.defs=gl at *
 generalize l9 b.defs r.defs=gr at *
 generalize hV:(if zb.2≠0 then ((false,false),zb.2)else if zl.2≠0 then ((false,false),zl.2)else if zr.2≠0 then ((false,false),zr.2)else if (!xb&&!xl&&!xr)=true then ((false,false),6)else ((mR (bI zb.1 zr.1) gl||(!xb&&xl&&!xr),mR (bI zb.1 zl.1) gr||(!xb&&!xl&&xr)),(0:Int)))=V;have w2:IntKind.i64.wrap 1=1:=by decide
 have w3:IntKind.i64.wrap 2=2:=by decide
 have w4:IntKind.i64.wrap 3=3:=by decide
 refine zG func20 rfl qCa (rs:=[.cell 10 2 true,.slot 11]) (by kernel_rfl) ?_;unfold zUq;simp[hPb,hPl,hPr]
 intros
 refine qH (S:=Nat) (fun i=>[(4,int fuel),(5,.ptr 0 0),(6,.ptr 1 0),(7,.ptr 2 0),(8,.ptr 3 0),(10,.ptr 4 0),(12,.ptr 5 0),(13,.ptr 6 0),(23,.sl 3 (zI b++zI l++zI r)),(24,int 3),(25,int i)])
  (fun i=>[.box (zI b),.box (zI l),.box (zI r),.box (zX t),.box [bl false,bl false],.box (oR zb zl zr i),.box (iU xb xl xr i)])
  (fun i=>ofI zb zl zr i) (fun i=>3-i) 0 ⟨by omega,fun h=>by omega,fun h=>by omega,fun h=>by omega⟩
  (mw [0,1,2,3,4,5,6] 0 (by rfl) (by simp[hPb,hPl,hPr,zX,oR,iU,yM,trz])) ?_
 rintro i ⟨hi,inv0,inv1,inv2⟩;by_cases h:i<3
 .rcases (by omega:i=0\/i=1\/i=2)with rfl|rfl|rfl
  .simp[hPb,hPl,hPr,oR,iU,yM,trz];refine mu wb (by simp[hPb,zX]) ?_;cases xb with
   |false =>
    simp only[jAj,if_false]at sb;simp[zQ];exact zN 1 ⟨by omega,fun _=>by rw[sb],fun h=>by omega,fun h=>by omega⟩ (by omega) (mw [0,1,2,3,4,5,6] 0 (by rfl) (by simp[hPb,hPl,hPr,zX,oR,iU,yM,trz,sb,w2,w3,w4]))
   |true =>
    simp only[if_true]at sb;rw[<-sb]at tb;simp[zQ,hPb,hPl,hPr,zX];refine mu tb (by simp[hPb,zX,nU,yM]) ?_;by_cases he:zb.2=0
    .simp[nU,yM,he];exact zN 1 ⟨by omega,fun _=>he,fun h=>by omega,fun h=>by omega⟩ (by omega) (mw [0,1,2,3,4,5,6] 0 (by rfl) (by simp[hPb,hPl,hPr,zX,oR,iU,yM,trz,w2,w3,w4]))
    .simp[nU,yM,he];exact zC 0 (by simp[tB,<-hV,he])
  .have gb:=inv0 (by omega);simp[hPb,hPl,hPr,oR,iU,yM,trz];refine mu wl (by simp[hPl,zX]) ?_;cases xl with
   |false =>
    simp only[jAj,if_false]at sl;simp[zQ];exact zN 2 ⟨by omega,fun _=>inv0 (by omega),fun _=>by rw[sl],fun h=>by omega⟩ (by omega) (mw [0,1,2,3,4,5,6] 0 (by rfl) (by simp[hPb,hPl,hPr,zX,oR,iU,yM,trz,sl,w2,w3,w4]))
   |true =>
    simp only[if_true]at sl;rw[<-sl]at tl;simp[zQ,hPb,hPl,hPr,zX];refine mu tl (by simp[hPl,zX,nU,yM]) ?_;by_cases he:zl.2=0
    .simp[nU,yM,he];exact zN 2 ⟨by omega,fun _=>inv0 (by omega),fun _=>he,fun h=>by omega⟩ (by omega) (mw [0,1,2,3,4,5,6] 0 (by rfl) (by simp[hPb,hPl,hPr,zX,oR,iU,yM,trz,w2,w3,w4]))
    .simp[nU,yM,he];exact zC 0 (by simp[tB,<-hV,he,gb])
  .have gb:=inv0 (by omega);have gl:=inv1 (by omega);simp[hPb,hPl,hPr,oR,iU,yM,trz];refine mu wr (by simp[hPr,zX]) ?_;cases xr with
   |false =>
    simp only[jAj,if_false]at sr;simp[zQ];exact zN 3 ⟨by omega,fun _=>inv0 (by omega),fun _=>inv1 (by omega),fun _=>by rw[sr]⟩ (by omega) (mw [0,1,2,3,4,5,6] 0 (by rfl) (by simp[hPb,hPl,hPr,zX,oR,iU,yM,trz,sr,w2,w3,w4]))
   |true =>
    simp only[if_true]at sr;rw[<-sr]at tr;simp[zQ,hPb,hPl,hPr,zX];refine mu tr (by simp[hPr,zX,nU,yM]) ?_;by_cases he:zr.2=0
    .simp[nU,yM,he];exact zN 3 ⟨by omega,fun _=>inv0 (by omega),fun _=>inv1 (by omega),fun _=>he⟩ (by omega) (mw [0,1,2,3,4,5,6] 0 (by rfl) (by simp[hPb,hPl,hPr,zX,oR,iU,yM,trz,w2,w3,w4]))
    .simp[nU,yM,he];exact zC 0 (by simp[tB,<-hV,he,gb,gl])
 .have hie:i=3:=by omega
  subst hie;have gb:=inv0 (by omega);have gl2:=inv1 (by omega);have gr2:=inv2 (by omega);rw[if_neg (by simp[gb]),if_neg (by simp[gl2]),if_neg (by simp[gr2])]at hV;have j1:=zHx zb.1 zr.1 (by omega) (by omega);have j2:=zHx zb.1 zl.1 (by omega) (by omega);have d1:=cI (zb.1.defs++zr.1.defs);have d2:=cI (zb.1.nodes++zr.1.nodes);have d3:=cI (zb.1.defs++zl.1.defs);have d4:=cI (zb.1.nodes++zl.1.nodes);simp only[jA4]at d1 d2 d3 d4;have a1:=zMt (bI zb.1 zr.1) gl _ rfl (by simp only[bI,jA4];omega);have a2:=zMt (bI zb.1 zl.1) gr _ rfl (by simp only[bI,jA4];omega);change Ret _ _ _ _ (.agg (yM (bI zb.1 zr.1))) _ at j1;change Ret _ _ _ _ (.agg (yM (bI zb.1 zl.1))) _ at j2;change Ret _ _ _ _ (bl (mR (bI zb.1 zr.1) gl)) _ at a1;change Ret _ _ _ _ (bl (mR (bI zb.1 zl.1) gr)) _ at a2;generalize bI zb.1 zr.1=q1 at *
  generalize bI zb.1 zl.1=q2 at *
  generalize mR q1 gl=y1 at *
  generalize mR q2 gr=y2 at *
  unfold yM at j1 j2 a1 a2;by_cases hx:(!xb&&!xl&&!xr)=true
  .rw[if_pos hx]at hV;have hxb:xb=false:=by revert hx;cases xb<;>simp
   have hxl:xl=false:=by revert hx;cases xb<;>cases xl<;>simp
   have hxr:xr=false:=by revert hx;cases xb<;>cases xl<;>cases xr<;>simp
   simp[oR,iU,yM,hxb,hxl,hxr];exact zC 0 (by simp[tB,<-hV])
  .rw[if_neg hx]at hV;have hx2:((xb==false)&&((xl==false)&&(xr==false)))=false:=by revert hx;cases xb<;>cases xl<;>cases xr<;>simp
   have hx3:(!xb&&(!xl&&!xr))=false:=by revert hx;cases xb<;>cases xl<;>cases xr<;>simp
   simp[oR,iU,yM,hx2,hx3,hPb,hPl,hPr];refine qB c1 (by simp[hPb,hPl]) (by simp) ?_;simp[hPb,hPl,hPr];refine qB c2 (by simp[hPb,hPr]) (by simp) ?_;simp;refine qB j1 (by simp) (by simp) ?_;simp;refine qB a1 (by simp) (by simp) ?_;cases y1
   all_goals
    simp;refine qB j2 (by simp) (by simp) ?_;simp;refine qB a2 (by simp) (by simp) ?_;cases y2
    all_goals
     simp;exact zC 0 (by rw[<-hV];cases xb<;>cases xl<;>cases xr<;>simp[tB])
def zK3:K:=(G [M 39 3,kBi 40 39 7 .quo,kC 41 14 [(kt 40),(kc 12)],M 17 41] (Z (G [M 42 17,kQi 43 42 0 false,M 44 43,T 44 false (M 45 17),T 44 false (kQi 46 45 3 false),kPt 47 44 46,M 48 47,T 48 false (M 49 17),T 48 false (kQi 50 49 4 false),kPt 51 48 50] (Y 51 (K.ops [J 52 12 2,J 53 16 3,kC 54 27 [(kt 52),(kt 53)],S 12 54 2]) ks)) (Z (G [M 55 17,kQi 56 55 1 false,M 57 56,T 57 false (M 58 17),T 57 false (kQi 59 58 3 false),kPt 60 57 59] (Y 60 (K.ops [J 61 13 2,J 62 16 3,kC 63 27 [(kt 61),(kt 62)],S 13 63 2]) ks)) (Z (G [M 64 17,kQi 65 64 2 false,M 66 65,T 66 false (M 67 17),T 66 false (kQi 68 67 4 false),kPt 69 66 68] (Y 69 (K.ops [J 70 14 2,J 71 16 3,kC 72 27 [(kt 70),(kt 71)],S 14 72 2]) ks)) (Z (G [M 73 17,kQi 74 73 5 false] (Y 74 (K.ops [J 75 13 2,kC 76 24 [(kt 75)],S 13 76 2]) ks)) (Z (K.dops [(0,2004,J 77 12 2),(1,2004,J 78 13 2),(2,2004,J 79 14 2),(3,2004,J 80 16 3),(4,1004,S 8 77 2),(5,1004,S 9 78 2),(6,1004,S 10 79 2),(7,1004,S 11 80 3)]) kr))))))
def zUo:K:=G [kZ 8 [kl,kl],kZ 9 [kl,kl],kZ 10 [kl,kl],kZ 11 [ki,ki,ki]] (G [M 18 0,kC 19 10 [(kt 18)],kZ 12 [kl,kl],S 12 19 2] (G [J 20 12 2,M 21 1,kC 22 52 [(kt 20),(kt 21),(kc 3)],kZ 13 [kl,kl],S 13 22 2] (G [J 23 12 2,M 24 2,kC 25 52 [(kt 23),(kt 24),(kc 3)],kZ 14 [kl,kl],S 14 25 2] (G [J 26 12 2,kC 27 11 [(kt 26)],M 15 27] (G [kb 28 [ki,ki,ki] [(0,1,(kc 5))],kZ 16 [ki,ki,ki],S 16 28 3] (Z (G [M 29 15,kN 30 29,kBi 31 30 0 .gtr] (Y 31 (K.ops [M 32 15,M 33 3,M 34 15,kN 35 34,kC 36 14 [(kt 33),(kt 35)],kX 37 32 36 3,J 38 37 3,S 16 38 3]) ks)) (K.wk zK3)))))))
def qDf:Nat->Option wE:=fun|17=>k_ [2004,2004,2004,2004,1004,1004,1004,1004]|_=>none
theorem qBX:kx f19 qDf zUo:=mz (by kernel_rfl)
def zAm(P:Prg)(how:Int):Id:=if aP (gZ P)=[]then ⟨5,0,0⟩ else (aP (gZ P)).getD (jX how (aP (gZ P)).length).toNat ⟨5,0,0⟩
def sdB(P:Prg)(t:Id)(n:Int):Prg:=if n=0\/n=3\/n=4 then woP P t else P
def sdL(L:Prg)(t:Id)(n:Int):Prg:=if n=1\/n=3 then woP L t else if n=5 then aY L else L
def sdR(R:Prg)(t:Id)(n:Int):Prg:=if n=2\/n=4 then woP R t else R
structure Sdp(m:Nat)(q:Prg):Prop where
 fit:∃hs,Fit q hs
 fine:FineP q
 len:m<=q.defs.length
variable{m:Nat}
theorem Sdp.le8(h:Sdp m q):q.defs.length<=100:=by obtain⟨hs,hf⟩:=h.fit;exact hf.len8
theorem zRY(t:Id):∀(l:wS),(l.Pairwise fun a b=>a.id≠b.id)->l.length<=(l.filter fun d=>decide (d.id≠t)).length+1
 |[],_=>by simp
 |d::l,h=>by
  obtain⟨h1,h2⟩:=jBx.1 h;by_cases e:d.id=t
  .have:l.filter (fun d=>decide (d.id≠t))=l:=List.filter_eq_self.2 fun x hx=>by
    have:=h1 x hx;rw[e]at this
    simpa using fun e2=>this e2.symm
   rw[List.filter_cons_of_neg (by simp[e]),this];simp
  .rw[List.filter_cons_of_pos (by simpa using e)];have:=zRY t l h2;simp only[jAb];omega
theorem Sdp.wo(h:Sdp (m+1) q)(ht:∀d∈q.defs,d.id=t->d.kind=4):Sdp m (woP q t):=by obtain⟨hs,hf⟩:=h.fit;exact⟨⟨_,zTP hf ht⟩,zRW h.fine t,by have:=zRY t q.defs hf.nd;have:=h.len;show m<=(q.defs.filter _).length;omega⟩
theorem Sdp.less{m n:Nat}(h:Sdp m q)(hn:n<=m):Sdp n q:=⟨h.fit,h.fine,jB1 hn h.len⟩
theorem Sdp.ren(h:Sdp m q):Sdp m (aY q):=by obtain⟨hs,hf⟩:=h.fit;exact⟨⟨_,vC hf⟩,rV h.fine,by simpa[aY]using h.len⟩
variable{P:Prg}
theorem Sdp.B(h:Sdp 5 P)(ht:∀d∈P.defs,d.id=t->d.kind=4)(n:Int):Sdp 4 (sdB P t n):=by
 unfold sdB;split
 .exact h.wo ht
 .exact h.less (by omega)
theorem Sdp.L(h:Sdp 5 P)(ht:∀d∈P.defs,d.id=t->d.kind=4)(n:Int):Sdp 4 (sdL P t n):=by
 unfold sdL;split
 .exact h.wo ht
 .split
  .exact(h.less (by omega)).ren
  .exact h.less (by omega)
theorem Sdp.R(h:Sdp 5 P)(ht:∀d∈P.defs,d.id=t->d.kind=4)(n:Int):Sdp 4 (sdR P t n):=by
 unfold sdR;split
 .exact h.wo ht
 .exact h.less (by omega)
section
variable{l:wC}(hl:∀x∈l,w64 x=x){P:Prg}(hP:PrgOk l P)
include hl hP
theorem PrgOk.snd:Sdp 5 P:=by obtain⟨h1,h2,_,_⟩:=hP.fine hl;exact⟨⟨_,hP.fit hl⟩,h1,h2⟩
theorem PrgOk.tst(how:Int)(hw:w64 how=how):∀d∈P.defs,d.id=zAm P how->d.kind=4:=by
 intro d hd he;unfold zAm at he;split at he
 .exfalso;have hm:d.hd∈P.defs.map Dfn.hd:=List.mem_map_of_mem hd;rw[hP.heads,hsV]at hm;obtain⟨k,hk,hke⟩:=jAl hm;rw[zQG]at hk;rw[mW _ _ hk]at hke;have:d.id.a=0:=by rw[show d.id=idR _ from (congrArg Hd.id hke).symm];rfl
  rw[he]at this;simp at this
 .rename_i hne;have hpos:0<(aP (gZ P)).length:=List.length_pos_iff.2 hne;obtain⟨a0,a1⟩:=eQ (k:=((aP (gZ P)).length:Int)) hw (by omega);have hlt:(jX how (aP (gZ P)).length).toNat<(aP (gZ P)).length:=by omega
  rw[jBz,jA2 hlt]at he;have hmem:d.id∈gZ P:=by rw[he];exact aQ.1 (jA0 hlt)
  obtain⟨d0,hd0,hid⟩:=jAf.1 hmem;obtain⟨hd1,hk⟩:=List.mem_filter.1 hd0;have hnd:=(hP.fit hl).nd;have e1:=zDm hnd (jAl hd).choose_spec.choose;have e:d0=d:=by
   obtain⟨i,hi,rfl⟩:=jAl hd;obtain⟨j,hj,rfl⟩:=jAl hd1;by_cases hij:i=j
   .subst hij;rfl
   .exfalso;rcases Nat.lt_or_gt_of_ne hij with h|h
    .exact jC0.1 hnd i j hi hj h hid.symm
    .exact jC0.1 hnd j i hj hi h hid
  rw[<-e]
  simpa using hk
theorem PrgOk.tw(a:wC)(ha:∀x∈a,w64 x=x)(m:Nat):Sdp 5 ⟨P.mods,bU a P.defs m⟩/\(∀d∈bU a P.defs m,NmD d)/\TwP P ⟨P.mods,bU a P.defs m⟩:=by obtain⟨h1,h2,_,_⟩:=hP.fine hl;have hA:=zTL P a ha m;exact⟨⟨⟨_,hA.fit (hP.fit hl)⟩,zFd a h1 m,by simp only[pM];exact h2⟩,zAn a hP.names (fun d hd _ _=>hd) m,hA⟩
end
theorem TwP.tst(hA:TwP P q)(h:∀d∈P.defs,d.id=t->d.kind=4):∀d∈q.defs,d.id=t->d.kind=4:=by intro d hd he;obtain⟨a,ha,hs⟩:=Al.mem (TwP.to0 hA) hd;rw[hs.kind];exact h a ha (by rw[<-hs.id];exact he)
theorem qLg(P L R:Prg)(h1:P.defs.length<=100)(h2:L.defs.length<=100)(h3:R.defs.length<=100)(hs:∀d∈L.defs,d.slots.length<=100)(hn:∀d∈L.defs,NmD d)(t:Id)(how:Int)(hw:w64 how=how) :
 wpK prog 0 zK3 (fin [RS.cell 8 2 true,RS.cell 9 2 true,RS.cell 10 2 true,RS.cell 11 3 true] (sM 0 (.tup [.agg (zI (sdB P t (jX (IntKind.i64.wrap (how.tdiv 7)) 12))),.agg (zI (sdL L t (jX (IntKind.i64.wrap (how.tdiv 7)) 12))),.agg (zI (sdR R t (jX (IntKind.i64.wrap (how.tdiv 7)) 12))),.agg (zX t)]) []))
  (jR [(3,int how),(8,.ptr 0 0),(9,.ptr 1 0),(10,.ptr 2 0),(11,.ptr 3 0),(12,.ptr 4 0),(13,.ptr 5 0),(14,.ptr 6 0),(16,.ptr 7 0)])
  [.box [.nil,.nil],.box [.nil,.nil],.box [.nil,.nil],.box [int 0,int 0,int 0],.box (zI P),.box (zI L),.box (zI R),.box (zX t)]:=by
 have hE:∀q:Prg,zI q=[.sl q.mods.length (qC q.mods),.sl q.defs.length (zV q.defs)]:=fun _=>rfl
 have ra:=uN (IntKind.i64.wrap (how.tdiv 7)) 12 (by omega);obtain⟨b0,b1⟩:=eQ (n:=IntKind.i64.wrap (how.tdiv 7)) (k:=12) (by simp only[w64,IntKind.wrap_i64];omega) (by omega);generalize jX (IntKind.i64.wrap (how.tdiv 7)) 12=n at *
 have wB:=zHT P h1 t;have wL:=zHT L h2 t;have wR:=zHT R h3 t;have wN:=zHH L h2 hs hn;unfold zK3;simp;refine mu ra (by simp) ?_;rcases (by omega:n=0\/n=1\/n=2\/n=3\/n=4\/n=5\/6<=n)with rfl|rfl|rfl|rfl|rfl|rfl|h6
 .simp[hE,zX];refine mu wB (by simp[hE,zX]) ?_;simp[hE,zX];exact zC 0 (by simp[sdB,sdL,sdR,hE,zX])
 .simp[hE,zX];refine mu wL (by simp[hE,zX]) ?_;simp[hE,zX];exact zC 0 (by simp[sdB,sdL,sdR,hE,zX])
 .simp[hE,zX];refine mu wR (by simp[hE,zX]) ?_;simp[hE,zX];exact zC 0 (by simp[sdB,sdL,sdR,hE,zX])
 .simp[hE,zX];refine mu wB (by simp[hE,zX]) ?_;simp[hE,zX];refine mu wL (by simp[hE,zX]) ?_;simp[hE,zX];exact zC 0 (by simp[sdB,sdL,sdR,hE,zX])
 .simp[hE,zX];refine mu wB (by simp[hE,zX]) ?_;simp[hE,zX];refine mu wR (by simp[hE,zX]) ?_;simp[hE,zX];exact zC 0 (by simp[sdB,sdL,sdR,hE,zX])
 .simp[hE,zX];refine mu wN (by simp[hE,zX]) ?_;simp[hE,zX];exact zC 0 (by simp[sdB,sdL,sdR,hE,zX])
 .have e0:¬n=0:=by omega
  have e1:¬n=1:=by omega
  have e2:¬n=2:=by omega
  have e3:¬n=3:=by omega
  have e4:¬n=4:=by omega
  have e5:¬n=5:=by omega
  simp[hE,zX,e0,e1,e2,e3,e4,e5];exact zC 0 (by simp[sdB,sdL,sdR,hE,zX,e0,e1,e2,e3,e4,e5])
def sdA(P:Prg)(a b:wC)(how:Int):A:=.tup [.agg (zI (sdB P (zAm P how) (jX (IntKind.i64.wrap (how.tdiv 7)) 12))),.agg (zI (sdL ⟨P.mods,bU a P.defs (oP a 3)⟩ (zAm P how) (jX (IntKind.i64.wrap (how.tdiv 7)) 12))),
 .agg (zI (sdR ⟨P.mods,bU b P.defs (oP b 3)⟩ (zAm P how) (jX (IntKind.i64.wrap (how.tdiv 7)) 12))),.agg (zX (zAm P how))]
theorem zKf(l a b:wC)(how:Int)(hl:∀x∈l,w64 x=x)(ha:∀x∈a,w64 x=x)(hb:∀x∈b,w64 x=x)(hw:w64 how=how) :
 ∃P,PrgOk l P/\my 19 [.sl l.length (y3 l),.sl a.length (y3 a),.sl b.length (y3 b),int how] [] (sdA P a b how) []:=by
 obtain⟨P,hP,rP⟩:=zTA l hl;refine⟨P,hP,?_⟩;have hs:=hP.snd hl;obtain⟨fP,p5,p8,pm⟩:=hP.fine hl;have rq:=zGL P fP (by omega) a ha 3 (by omega);have rt:=zGL P fP (by omega) b hb 3 (by omega);obtain⟨sL,nL,_⟩:=hP.tw hl a ha (oP a 3);obtain⟨sR,_,_⟩:=hP.tw hl b hb (oP b 3);have rts:=zOR P hs.le8;have hN:=fun t=>qLg P ⟨P.mods,bU a P.defs (oP a 3)⟩ ⟨P.mods,bU b P.defs (oP b 3)⟩ hs.le8 sL.le8 sR.le8 (fun d hd=>by have:=(sL.fine.slots d hd).2;omega) nL t how hw
 have hE:∀q:Prg,zI q=[.sl q.mods.length (qC q.mods),.sl q.defs.length (zV q.defs)]:=fun _=>rfl
 obtain⟨V,hV⟩:∃V,V=sdA P a b how:=⟨_,rfl⟩;rw[<-hV];unfold sdA zAm at hV;generalize (⟨P.mods,bU a P.defs (oP a 3)⟩:Prg)=L at *
 generalize (⟨P.mods,bU b P.defs (oP b 3)⟩:Prg)=R at *
 have hXl:(aP (gZ P)).length<=100:=jB1 (cI _) (jB1 (oA P.defs) hs.le8);generalize aP (gZ P)=X at *
 refine zJ func19 rfl qBX (rs:=[.cell 8 2 true,.cell 9 2 true,.cell 10 2 true,.cell 11 3 true]) (by kernel_rfl) ?_;unfold zUo;simp;refine mu rP (by simp[hE]) ?_;simp[hE];refine mu rq (by simp[hE]) ?_;simp[hE];refine mu rt (by simp[hE]) ?_;simp[hE];refine mu rts (by simp[hE]) ?_;by_cases hx:X=[]
 .subst hx;rw[if_pos rfl]at hV;have hN5:=hN ⟨5,0,0⟩;rw[<-hV]at hN5;simp;refine⟨_,_,kf [0,1,2,3,4,5,6,7] 0 (by rfl) ?_ ?_,hN5⟩
  .simp[hE,zX]
  .simp
 .have hpos:0<X.length:=List.length_pos_iff.2 hx;obtain⟨a0,a1⟩:=eQ (k:=(X.length:Int)) hw (by omega);have rr:=uN how X.length (by omega);obtain⟨x,hxe⟩:∃x:Nat,jX how X.length=x:=⟨(jX how X.length).toNat,by omega⟩;rw[hxe]at rr a1;have hxl:x<X.length:=by omega
  have hgd:X.getD x ⟨5,0,0⟩=X[x]:=by rw[jBz,jA2 hxl];rfl
  rw[if_neg hx,hxe,jCm,hgd]at hV;have hcd:=qV hxl;have hNt:=hN X[x];rw[<-hV]at hNt;clear hV hN;generalize X[x]=t at *
  simp[hpos,hx]
  intros
  refine mu rr (by simp) ?_;simp[hxl,hx,hcd];refine⟨_,_,kf [0,1,2,3,4,5,6,7] 0 (by rfl) ?_ ?_,hNt⟩
  .simp[hE,zX]
  .simp
end Go.Proofs.YtolkhapmieigcaaGreatDoor

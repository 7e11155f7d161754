/- The values of a domain are small. -/
import Derived.Test.YtdnelmeboihpkaaGreatDoorX22
set_option linter.unusedVariables false
set_option maxHeartbeats 8000000
set_option maxRecDepth 100000
set_option linter.unusedSimpArgs false
open Go.Proofs.Tryz
namespace Go.Proofs.YtdnelmeboihpkaaGreatDoor
open Go.Abs
inductive OneOf:List Val->List (List Val)->Prop
 |nil:OneOf [] []
 |cons {v:Val} {x:List Val} {t:List Val} {l:List (List Val)} (h:v∈x) (ht:OneOf t l):OneOf (v::t) (x::l)
theorem zJt:∀(l acc:List wI) (t:wI),t∈l.foldl gL acc->∃h∈acc,∃s,t=h++s/\OneOf s l
 |[],acc,t,ht=>⟨t,ht,[],by simp,.nil⟩
 |a::l,acc,t,ht=>by obtain⟨h,hh,s,rfl,hs⟩:=zJt l (gL acc a) t ht;simp only[gL,List.mem_flatMap,jAg]at hh;obtain⟨g,hg,x,hx,rfl⟩:=hh;exact⟨g,hg,x::s,by simp,.cons hx hs⟩
theorem zKn{l:List wI}{t:wI}(h:t∈aQ l):OneOf t l:=by obtain⟨g,hg,s,rfl,hs⟩:=zJt l [[]] t h;simp at hg;subst hg;simpa using hs
inductive BndB(N:Nat):List Sz->List (List Val)->Prop
 |nil:BndB N [] []
 |cons {k:Sz} {x:List Val} {z:List Sz} {l:List (List Val)} (h:∀v∈x,(zZ v:Int)<=k.b/\j6 v<=N) (h0:0<=k.b) (hz:BndB N z l):BndB N (k::z) (x::l)
def zGc:List Sz->Int
 |[]=>0
 |k::z=>k.b+zGc z
theorem zIe{N:Nat}:∀{z:List Sz} {l:List wI} {t:wI},BndB N z l->OneOf t l->(qK t:Int)<=zGc z/\yI t<=N
 |_,_,_,.nil,.nil=>by simp[qK,yI,zGc]
 |_,_,_,.cons h _ hz,.cons hv ht=>by have h1:=zIe hz ht;have h2:=h _ hv;simp only[qK,yI,zGc];omega
theorem zSD:∀(z:List Sz) (a b:Int),(pQ a b z).e=0->(pQ a b z).b=b+zGc z
 |[],a,b,_=>by simp[pQ,zGc]
 |k::z,a,b,h=>by
  simp only[pQ]at h⊢;split at h
  .simp at h
  .rename_i hn;rw[if_neg hn,zSD z _ _ h];simp only[zGc];omega
theorem zNm:∀(z:List Sz) (a b:Int),b<=(lE a b z).b/\∀k∈z,1+k.b<=(lE a b z).b
 |[],a,b=>by simp[lE]
 |k::z,a,b=>by
  have:=zNm z (a+k.a) (max b (1+k.b));simp only[lE];refine⟨by omega,fun x hx=>?_⟩;rcases jA3.1 hx with rfl|hx
  .omega
  .exact this.2 x hx
theorem zGn{N:Nat}:∀{z:List Sz} {l:List wI} (i:Int),BndB N z l->∀v∈yF i l,∃k∈z,(zZ v:Int)<=1+k.b/\j6 v<=N+1
 |_,_,i,.nil,v,h=>by simp[yF]at h
 |_,_,i,.cons (k:=k) h h0 hz,v,hv=>by
  simp only[yF,jAc,jAg]at hv;rcases hv with ⟨x,hx,rfl⟩|hv
  .have:=h x hx;refine⟨k,by simp,?_⟩;have e1:zZ (.mk 3 i [x])=1+qK [x]:=aR _;have e2:j6 (.mk 3 i [x])=yI [x]+1:=gA _;have e3:qK [x]=zZ x+0:=by simp only[qK]
   have e4:yI [x]=max (j6 x) 0:=by simp only[yI]
   rw[e1,e2,e3,e4];omega
  .obtain⟨k',hk',h'⟩:=zGn (i+1) hz v hv;exact⟨k',by simp[hk'],h'⟩
theorem zNk{N:Nat}{k:Sz}{x:wI}(h:∀v∈x,(zZ v:Int)<=k.b/\j6 v<=N)(h0:0<=k.b):∀j,BndB N (List.replicate j k) (List.replicate j x)/\zGc (List.replicate j k)=j*k.b
 | 0=>⟨.nil,by simp[zGc]⟩
 |j+1=>by
  have:=zNk h h0 j;refine⟨.cons h h0 this.1,?_⟩;simp only[List.replicate_succ,zGc,this.2];have:((j+1:Nat):Int)*k.b=j*k.b+k.b:=by rw[jDa,Int.add_mul];simp
  omega
theorem zNz{k:Sz}(h:(gH k).e=0)(ha:(gH k).a≠0):(gH k).b=k.b:=by
 unfold gH at *
 split at h
 .rename_i h1;simp at h;exact(h1 h).elim
 .split at h
  .simp at h
  .rename_i h1 h2;rw[if_neg h1,if_neg h2]at ha ⊢;simp only at ha ⊢;rw[if_neg ha]
theorem zGh{p:Prg}{m:Int}{n:Nat}(hm:0<=m/\m<=64)(ih:∀t,(yE p m n t).e=0->∀v∈dS p m n t,(zZ v:Int)<=(yE p m n t).b/\j6 v<=n):∀l:List Slt,(∀s∈l,(yE p m n s.typ).e=0) ->
 BndB n (l.map fun s=>yE p m n s.typ) (l.map fun s=>dS p m n s.typ)
 |[],_=>.nil
 |s::l,h=>.cons (ih _ (h s (by simp))) ((eT p m hm n s.typ) (h s (by simp))).2.2.1 (zGh hm ih l fun x hx=>h x (by simp[hx]))
theorem zDP(p:Prg)(m:Int)(hm:0<=m/\m<=64):∀(n:Nat) (t:Typ),(yE p m n t).e=0->∀v∈dS p m n t,(zZ v:Int)<=(yE p m n t).b/\j6 v<=n
 | 0,t,_,v,hv=>by simp[dS]at hv
 |n+1,t,h,v,hv=>by
  have ih:=zDP p m hm n;have hlen:=oE p m hm.1 (n+1) t h;have hpos:0<(dS p m (n+1) t).length:=List.length_pos_of_mem hv;have ha:(yE p m (n+1) t).a≠0:=by omega
  clear hlen hpos;unfold yE at h ha ⊢;unfold dS at hv;by_cases hvt:validT p t=false
  .rw[if_pos hvt]at h;simp at h
  .rw[if_neg hvt]at h ha ⊢;by_cases h0:t.k=0
   .rw[if_pos h0]at hv ⊢;simp only[mT,jAg]at hv;obtain⟨i,_,rfl⟩:=hv;simp[aR,gA,Val.kids,qK,yI]
   .rw[if_neg h0]at h ha hv ⊢;by_cases h1:t.k=1
    .rw[if_pos h1]at hv ⊢;simp only[jA3,jAw,or_false]at hv;rcases hv with rfl|rfl<;>simp[aR,gA,Val.kids,qK,yI]
    .rw[if_neg h1]at h ha hv ⊢;by_cases h2:t.k=2
     .rw[if_pos h2]at h ha hv ⊢;rw[zNz h ha];have hfe:=xC h;have ih2:=ih (t.kids.headD Typ.zero);have hok:=eT p m hm n (t.kids.headD Typ.zero);generalize yE p m n (t.kids.headD Typ.zero)=kz at *
      generalize dS p m n (t.kids.headD Typ.zero)=X at *
      have hle:=hfe.1;have hke:kz.e=0:=by
       unfold eI at hle;split at hle
       .rename_i hh;simpa using hle
       .rename_i hh;simpa using hh
      obtain⟨_,_,b0,b1⟩:=hok hke;simp only[zHX,List.mem_flatMap,jAg,jC]at hv;obtain⟨j,hj,tt,htt,rfl⟩:=hv;have hr:=zNk (N:=n) (fun v hv=>ih2 hke v hv) b0 j;have ho:=zIe hr.1 (zKn htt);rw[hr.2]at ho;have hj2:j=0\/(j=1/\1<=m)\/(j=2/\2<=m):=by split at hj<;>omega
      simp only[aR,gA,Val.kids];unfold eI;rw[if_neg (by simp[hke])];refine⟨?_,by omega⟩;rcases hj2 with rfl|⟨rfl,hj2⟩|⟨rfl,hj2⟩
      .split
       .simp only;omega
       .split<;>simp only<;>omega
      .rw[if_neg (by omega)];split<;>simp only<;>omega
      .rw[if_neg (by omega),if_neg (by omega)];simp only;omega
     .rw[if_neg h2]at h ha hv ⊢;rw[zNz h ha];have e1:=(xC h).1;have e3:sL ((dfn p t.id).slots.map fun s=>yE p m n s.typ)=0:=by
       by_cases hz:sL ((dfn p t.id).slots.map fun s=>yE p m n s.typ)=0
       .exact hz
       .exact absurd e1 (by simp[bI,hz])
      have hb:=zGh hm ih (dfn p t.id).slots (fun s hs=>lL e3 _ (jAg.2 ⟨s,hs,rfl⟩));have hvt2:validT p t=true:=by simpa using hvt
      have e5:=zAL hvt2 h0 h1 h2;unfold tM at hv;rcases e5 with e5|e5
      .rw[if_pos e5]at hv;have ee:bI (decide ((dfn p t.id).kind=0)) ((dfn p t.id).slots.map fun s=>yE p m n s.typ)=pQ 1 1 ((dfn p t.id).slots.map fun s=>yE p m n s.typ):=by simp[bI,e3,e5]
       rw[ee]at e1 ⊢;rw[zSD _ _ _ e1];simp only[rL,jAg]at hv;obtain⟨tt,htt,rfl⟩:=hv;have ho:=zIe hb (zKn htt);simp only[aR,gA,Val.kids];omega
      .rw[if_neg (by omega),if_pos e5]at hv;have ee:bI (decide ((dfn p t.id).kind=0)) ((dfn p t.id).slots.map fun s=>yE p m n s.typ)=lE 0 1 ((dfn p t.id).slots.map fun s=>yE p m n s.typ):=by simp[bI,e3,e5]
       rw[ee];obtain⟨k,hk,h3,h4⟩:=zGn 0 hb v hv;have:=(zNm ((dfn p t.id).slots.map fun s=>yE p m n s.typ) 0 1).2 k hk;omega
theorem zI0(p:Prg)(t:Typ)(m:Int):∀v∈(bJ p t m).1,zZ v<=256/\j6 v<=24:=by
 intro v hv;unfold bJ at hv;split at hv
 .simp at hv
 .rename_i hm;split at hv
  .simp at hv
  .rename_i he;have he':(size p m t).e=0:=by simpa using he
   simp only at hv;have hv2:v∈dS p m 24 t:=(List.mergeSort_perm _ _).mem_iff.1 hv;have:=zDP p m (by omega) 24 t he' v hv2;have hb:=(eT p m (by omega) 24 t he').2.2.2;omega
def iD(n:Int):Id:=⟨0,1,n⟩
def exF(at_ place rec slot:Int):Exp:=.mk (iD at_) 8 place (iD rec) .zero [.mk (iD (at_+1)) 2 0 (iD slot) .zero [] []] []
def exS(i:Int)(nm:ByteArray)(pl:Int):Slt:=⟨iD i,nm,.zero,0,pl⟩
def zRy:Exp:=.mk (iD 20) 7 0 (iD 11) .zero [exF 21 0 10 4,.mk (iD 23) 0 0 .zero .zero [] []] []
def zR2:Exp:=.mk (iD 24) 4 0 .zero .zero [exF 25 0 11 5,exF 27 1 11 5] []
def zR1:Exp:=.mk (iD 29) 4 2 .zero .zero [exF 30 0 10 6,exF 16 0 10 6] []
def zFQ(i:Int)(nm:ByteArray)(s:Int)(a b:Int)(e:Exp):Dfn:=⟨iD i,5,iD 0,nm,[⟨iD s,⟨#[97]⟩,yO (iD a),0,0⟩],yO (iD b),e,0,[]⟩
def nR(i:Int)(nm:ByteArray)(ss:List Slt):Dfn:=⟨iD i,0,iD 0,nm,ss,.zero,.zero,0,[]⟩
def a7:Prg:=⟨[⟨iD 0,⟨#[109]⟩,[],[iD 1,iD 2,iD 3,iD 10,iD 11,iD 12]⟩],
 [zFQ 1 ⟨#[112]⟩ 4 10 11 zRy,zFQ 2 ⟨#[113]⟩ 5 11 12 (.mk (iD 18) 7 0 (iD 12) .zero [zR2] []),zFQ 3 ⟨#[114]⟩ 6 10 12 (.mk (iD 19) 7 0 (iD 12) .zero [zR1] []),
  nR 10 ⟨#[65]⟩ [exS 7 ⟨#[120]⟩ 0],nR 11 ⟨#[66]⟩ [exS 8 ⟨#[120]⟩ 0,exS 9 ⟨#[121]⟩ 1],nR 12 ⟨#[67]⟩ [exS 13 ⟨#[120]⟩ 0]]⟩
def uB(n:Int):Val:=.mk 2 0 [.mk 0 n []]
theorem zHE{rec slot:Int}{at_:Int}{j:Nat}(d:Dfn)(hd:jH a7.defs (iD rec)=some d)(hk:d.kind=0)(hj:j<d.slots.length)(ht:d.slots[j].typ=jK):WE a7 [⟨iD slot,0,yO (iD rec)⟩] (exF at_ j rec slot) jK:=by have:=WE.field (p:=a7) [⟨iD slot,0,yO (iD rec)⟩] (iD at_) (iD rec) .zero (.mk (iD (at_+1)) 2 0 (iD slot) .zero [] []) [] d j hd hk hj (.var _ _ _ _ _ _ _ (by simp[fI]));rw[ht]at this;exact this
def zRz:Dfn:=nR 10 ⟨#[65]⟩ [exS 7 ⟨#[120]⟩ 0]
def zNx:Dfn:=nR 11 ⟨#[66]⟩ [exS 8 ⟨#[120]⟩ 0,exS 9 ⟨#[121]⟩ 1]
def zR0:Dfn:=nR 12 ⟨#[67]⟩ [exS 13 ⟨#[120]⟩ 0]
theorem qFz:jH a7.defs (iD 10)=some zRz:=by rfl
theorem zYL:jH a7.defs (iD 11)=some zNx:=by rfl
theorem qF0:jH a7.defs (iD 12)=some zR0:=by rfl
theorem zL7{k:Nat}{n:Int}(h:k<(a7.defs.map Dfn.hd).length)(hid:(a7.defs.map Dfn.hd)[k].id=iD n)(h1:∀(j:Nat)(hj:j<k),(a7.defs.map Dfn.hd)[j].id≠(a7.defs.map Dfn.hd)[k].id)
 (h2:(a7.defs.map Dfn.hd)[k].kind=0)(h3:(a7.defs.map Dfn.hd)[k].slots.length<=6)(h4:∀s∈(a7.defs.map Dfn.hd)[k].slots,s.typ=jK):TyOk (a7.defs.map Dfn.hd) 4 (yO (iD n)):=by
 rw[<-hid];exact .dfn 3 k h h1 (.inl h2) h3 fun s hs=>by rw[h4 s hs];exact .int _
theorem zBi:Fit a7 (a7.defs.map Dfn.hd):=by
 have t10:TyOk (a7.defs.map Dfn.hd) 4 (yO (iD 10)):=zL7 (k:=3) (by decide) rfl (by decide) rfl (by decide) (by intro s hs;simp[a7,nR,zFQ,exS,Dfn.hd]at hs;subst hs;rfl);have t11:TyOk (a7.defs.map Dfn.hd) 4 (yO (iD 11)):=zL7 (k:=4) (by decide) rfl (by decide) rfl (by decide) (by intro s hs;simp[a7,nR,zFQ,exS,Dfn.hd]at hs;rcases hs with rfl|rfl<;>rfl);have t12:TyOk (a7.defs.map Dfn.hd) 4 (yO (iD 12)):=zL7 (k:=5) (by decide) rfl (by decide) rfl (by decide) (by intro s hs;simp[a7,nR,zFQ,exS,Dfn.hd]at hs;subst hs;rfl);refine⟨rfl,by decide,by decide,?_,by decide,?_⟩
 .intro d hd;simp only[a7,jA3,jAw,or_false]at hd;rcases hd with rfl|rfl|rfl|rfl|rfl|rfl
  .exact⟨by decide,by decide,by decide,by decide,fun s hs=>by simp[zFQ]at hs;subst hs;exact t10⟩
  .exact⟨by decide,by decide,by decide,by decide,fun s hs=>by simp[zFQ]at hs;subst hs;exact t11⟩
  .exact⟨by decide,by decide,by decide,by decide,fun s hs=>by simp[zFQ]at hs;subst hs;exact t10⟩
  .exact⟨by decide,by decide,by decide,by decide,fun s hs=>by simp[nR,exS]at hs;subst hs;exact .int _⟩
  .exact⟨by decide,by decide,by decide,by decide,fun s hs=>by simp[nR,exS]at hs;rcases hs with rfl|rfl<;>exact .int _⟩
  .exact⟨by decide,by decide,by decide,by decide,fun s hs=>by simp[nR,exS]at hs;subst hs;exact .int _⟩
 .intro r d hd hb;have hm:=(aN hd).1;simp only[a7,jA3,jAw,or_false]at hm;rcases hm with rfl|rfl|rfl|rfl|rfl|rfl
  .show WE a7 [⟨iD 4,0,yO (iD 10)⟩] zRy (yO (iD 11));refine .record _ _ _ _ _ _ _ (by decide) zNx zYL rfl rfl fun j hj=>?_
   have:j=0\/j=1:=by simp at hj;omega
   rcases this with rfl|rfl
   .exact zHE (j:=0) zRz qFz rfl (by decide) rfl
   .exact .int _ _ _ _ _ _ (by decide) (by decide)
  .show WE a7 [⟨iD 5,0,yO (iD 11)⟩] (.mk (iD 18) 7 0 (iD 12) .zero [zR2] []) (yO (iD 12));refine .record _ _ _ _ _ _ _ (by decide) zR0 qF0 rfl rfl fun j hj=>?_
   have:j=0:=by simp at hj;omega
   subst this;refine .op _ _ _ _ _ _ _ (by decide) [jK,jK] jK (.arith _ (by decide) (by decide)) rfl fun j hj=>?_
   have:j=0\/j=1:=by simp at hj;omega
   rcases this with rfl|rfl
   .exact zHE (j:=0) zNx zYL rfl (by decide) rfl
   .exact zHE (j:=1) zNx zYL rfl (by decide) rfl
  .show WE a7 [⟨iD 6,0,yO (iD 10)⟩] (.mk (iD 19) 7 0 (iD 12) .zero [zR1] []) (yO (iD 12));refine .record _ _ _ _ _ _ _ (by decide) zR0 qF0 rfl rfl fun j hj=>?_
   have:j=0:=by simp at hj;omega
   subst this;refine .op _ _ _ _ _ _ _ (by decide) [jK,jK] jK (.arith _ (by decide) (by decide)) rfl fun j hj=>?_
   have:j=0\/j=1:=by simp at hj;omega
   rcases this with rfl|rfl
   all_goals
    exact zHE (j:=0) zRz qFz rfl (by decide) rfl
  all_goals exact absurd hb (by decide)
theorem oJ(n:Int):my 50 [int n] [] (.agg [int 0,int 1,int n]) []:=by
 refine mq [] [.cell 2 3 true] func50 (by kernel_rfl) ?_
 (conv in kq _ _=>cbv)
 simp;exact zA 0 (by simp)
theorem qAz(n:Int):my 94 [int n] [] (.agg [int 3,int 0,int 1,int n,.sl 0 []]) []:=by
 refine mq [] [.cell 2 5 true] func94 (by kernel_rfl) ?_
 (conv in kq _ _=>cbv)
 simp;refine mu (oJ n) (by simp) ?_;simp;exact zA 0 (by simp)
theorem qAx(a p r s:Int)(h:IntKind.i64.wrap (a+1)=a+1):my 93 [int a,int p,int r,int s] [] (.agg (zJ (exF a p r s))) []:=by
 refine mq [] [.cell 8 15 true] func93 (by kernel_rfl) ?_
 (conv in kq _ _=>cbv)
 simp;refine mu (oJ a) (by simp) ?_;simp;refine mu (oJ r) (by simp) ?_;simp[h];refine mu (oJ (a+1)) (by simp) ?_;simp;refine mu (oJ s) (by simp) ?_;simp;exact zA 0 (by simp[exF,zJ,iD,Typ.zero,Id.zero,zO])
def zHF(l:wB):List Slt:=l.mapIdx fun i s=>exS s (([⟨#[120]⟩,⟨#[121]⟩]:List ByteArray).getD i ⟨#[]⟩) i
theorem zOA(l:wB)(s:Int):zHF (l++[s])=zHF l++[exS s (([⟨#[120]⟩,⟨#[121]⟩]:List ByteArray).getD l.length ⟨#[]⟩) l.length]:=by simp[zHF,List.mapIdx_append]
theorem qAy(n:Int)(nm:ByteArray)(l:wB)(hl:l.length<=2):my 95 [int n,.lit (.string nm),.sl l.length (yC l)] [] (.agg (zK (nR n nm (zHF l)))) []:=by
 refine mq [] [.cell 6 31 true] func95 (by kernel_rfl) ?_
 (conv in kq _ _=>cbv)
 simp;refine mu (oJ n) (by simp) ?_;simp;refine mu (oJ 0) (by simp) ?_;simp;refine qO (S:=Nat) (fun i=>[(2,.sl l.length (yC l)),(6,.ptr 0 0),(7,.ptr 1 0),(8,int i)]) (fun i=>[.box (kz0.map jJ),.box ((zK (nR n nm [])).set 8 (.row 2 i)),.row false 85 11 i (jN (zHF (l.take i)))])
  (fun i=>i<=l.length) (fun i=>l.length-i) 0 (by omega)
  ((yJ (l:=1) (o:=8) rfl rfl 85 11).trans (mw [0,1,2] 0 (by rfl) (by simp[zK,nR,iD,Typ.zero,Id.zero,Exp.zero,zHF]))) ?_
 intro i hi;by_cases h:i<l.length
 .have hne:¬l=[]:=fun e=>by rw[e]at h;simp at h
  have hcd:=iG h;have hsn:=zOA (l.take i) l[i];rw[<-jA8 h,jAs,jAv hi]at hsn;have r:=oJ l[i];generalize l[i]=s at *
  have hI0:(0:Int)<l.length:=by omega
  rcases (by omega:i=0\/i=1)with rfl|rfl
  .simp[zK,nR,iD,Typ.zero,Id.zero,Exp.zero,h,hne,hcd]
   intros
   refine qA r (by simp) (by simp) ?_;simp;refine⟨by simp[maxLen],?_⟩;exact zS 1 h (by omega) (mw [0,1,2] 0 (by rfl) (by simp[hsn,pK,mB,j4,exS,zK,nR,iD,Typ.zero,Id.zero,Exp.zero,show IntKind.i64.wrap 1=1 by decide]))
  .have hI:(1:Int)<l.length:=by omega
   simp[zK,nR,iD,Typ.zero,Id.zero,Exp.zero,h,hne,hcd,hI]
   intros
   refine qA r (by simp) (by simp) ?_;simp;refine⟨by simp[maxLen],?_⟩;exact zS 2 h (by omega) (mw [0,1,2] 0 (by rfl) (by simp[hsn,pK,mB,j4,exS,zK,nR,iD,Typ.zero,Id.zero,Exp.zero,show IntKind.i64.wrap 2=2 by decide]))
 .have hie:i=l.length:=by omega
  subst hie;rw[jAu];simp[zK,nR,iD,Typ.zero,Id.zero,Exp.zero]
  intros
  exact zA 1 (by simp[zK,nR,iD,Typ.zero,Id.zero,Exp.zero,zHF])
section
variable{U:St}{d:wC}{env:Env}{K':wK}{Qp:Value->wK}{KD:Env->Prop}
theorem xI0{n:Int}(hq:K' (env.put d (.agg [int 0,int 1,int n])) U):aV prog 50 [int n] U (Go.Abs.outK d env K' Qp):=mu (oJ n) (by simp) hq
theorem xI1{n:Int}(hq:KD (env.put d (.agg [int 0,int 1,int n]))):tP prog U d KD 50 [int n] env:=qA (oJ n) (by simp) (by simp) hq
theorem xT1{n:Int}(hq:KD (env.put d (.agg [int 3,int 0,int 1,int n,.sl 0 []]))):tP prog U d KD 94 [int n] env:=qA (qAz n) (by simp) (by simp) hq
theorem xF0{a p r s:Int}(h:IntKind.i64.wrap (a+1)=a+1)(hq:K' (env.put d (.agg (zJ (exF a p r s)))) U):aV prog 93 [int a,int p,int r,int s] U (Go.Abs.outK d env K' Qp):=mu (qAx a p r s h) (by simp) hq
theorem xR1{n:Int}{nm:ByteArray}{l:wB}(hl:l.length<=2){x:A}(hx:dD [] [int n,.lit (.string nm),x] [int n,.lit (.string nm),.sl l.length (yC l)])(hq:KD (env.put d (.agg (zK (nR n nm (zHF l)))))):tP prog U d KD 95 [int n,.lit (.string nm),x] env:=qA (qAy n nm l hl) hx (by simp) hq
end
theorem zUf:my 49 [] [] (.agg (zN a7)) []:=by
 refine mq [] [.cell 0 2 true] func49 (by kernel_rfl) ?_
 (conv in kq _ _=>cbv)
 repeat (first|refine xI0 ?_|refine xI1 ?_|refine xT1 ?_|refine xF0 (by decide) ?_|simp[zJ]|refine⟨by simp[maxLen],?_⟩)
 refine xR1 (l:=[7]) (by decide) (by simp) ?_
 repeat (first|refine xI0 ?_|refine xI1 ?_|refine xT1 ?_|refine xF0 (by decide) ?_|simp[zJ]|refine⟨by simp[maxLen],?_⟩)
 refine xR1 (l:=[8,9]) (by decide) (by simp) ?_
 repeat (first|refine xI0 ?_|refine xI1 ?_|refine xT1 ?_|refine xF0 (by decide) ?_|simp[zJ]|refine⟨by simp[maxLen],?_⟩)
 refine xR1 (l:=[13]) (by decide) (by simp) ?_
 repeat (first|refine xI0 ?_|refine xI1 ?_|refine xT1 ?_|refine xF0 (by decide) ?_|simp[zJ]|refine⟨by simp[maxLen],?_⟩)
 exact zA 1 (by simp[zN,a7,zFQ,nR,zHF,exS,exF,zRy,zR2,zR1,mB,zO,j4,jL,yT,zJ,zK,qG,nQ,zL,zV,uL,z6,iD,yO,jK,Typ.zero,Id.zero,Exp.zero])
theorem iU(n:Int):my 50 [int n] [] (.agg (zL (iD n))) []:=oJ n
theorem zEQ(n:Int):my 51 [int n] [] (.agg (zC (uB n))) []:=by
 refine mq [] [.cell 2 3 true] func51 (by kernel_rfl) ?_
 (conv in kq _ _=>cbv)
 simp;exact zA 0 (by simp[zC,uB,Val.k,Val.n,Val.kids])
theorem zVg(a b:List wF)(ha:a.length<=1000):my 22 [.sl a.length (jZ a),.sl b.length (jZ b)] [] (bl (decide (a=b))) []:=by
 refine mq [] [.slot 4] func22 (by kernel_rfl) ?_
 (conv in kq _ _=>cbv)
 by_cases hab:a.length=b.length
 .have hab':(a.length:Int)=b.length:=by omega
  simp[hab];intro hlb;refine qO (S:=Nat) (fun i=>[(0,.sl a.length (jZ a)),(1,.sl b.length (jZ b)),(5,int i)]) (fun s=>[]) (fun i=>i<=a.length/\a.take i=b.take i) (fun i=>a.length-i) 0 (by simp)
   (mw [] 0 (by rfl) (by simp[hab])) ?_
  rintro i ⟨hi,hn⟩;by_cases h:i<a.length
  .have hb:i<b.length:=by omega
   have hs:=zPA a[i] b[i];have hpa:=fY h;have hpb:=fY hb;have hane:¬a=[]:=fun e=>by rw[e]at h;simp at h
   have hbne:¬b=[]:=fun e=>by rw[e]at hb;simp at hb
   have hw:=qF h (show a.length<=maxLen by simp[maxLen];omega);simp[h,hb,hpa,hpb,hane,hbne];intro _;refine qA hs (by simp) (by simp) ?_;by_cases hx:a[i]=b[i]
   .simp[hx];refine zS (i+1) ⟨h,?_⟩ (by omega) (mw [] 0 (by rfl) (by simp[hw]));rw[jA8 h,jA8 hb,hn,hx]
   .have hne:a≠b:=fun e=>hx (by subst e;rfl)
    simp[hx];exact zA 0 (by simp[hne])
  .have:i=a.length:=by omega
   subst this;simp;have:a=b:=by rw[jAu,hab,jAu]at hn;exact hn
   exact fun _=>zA 0 (by simp[this])
 .have hne:a≠b:=fun e=>hab (by rw[e])
  have hab':¬(a.length:Int)=b.length:=by omega
  simp[hab'];exact fun _ _=>zA 0 (by simp[hne])
def zLT{β:Type}(cf : β->β->Int)(x : β):List β->List β
 |[]=>[x]
 |y::l=>if cf y x<0 then y::zLT cf x l else x::y::l
def zHW{β:Type}(cf : β->β->Int):List β->List β
 |[]=>[]
 |x::l=>zLT cf x (zHW cf l)
theorem zCt{β:Type}(cf : β->β->Int)(x : β):∀l,(zLT cf x l).Perm (x::l)
 |[]=>.refl _
 |y::l=>by
  unfold zLT;split
  .exact((zCt cf x l).cons y).trans (.swap x y l)
  .exact .refl _
theorem zDh{β:Type}{cf : β->β->Int}(ho:Ord cf)(x : β):∀{l:List β},l.Pairwise (fun x y=>¬cf y x<0)->(zLT cf x l).Pairwise (fun x y=>¬cf y x<0)
 |[],_=>by simp[zLT]
 |y::l,h=>by
  obtain⟨h1,h2⟩:=jC5.1 h;unfold zLT;split
  .rename_i hy;refine jC5.2 ⟨fun z hz=>?_,zDh ho x h2⟩;rcases jA3.1 ((zCt cf x l).mem_iff.1 hz)with rfl|hz
   .exact fun hh=>ho.irrefl _ (ho.trans _ _ _ hy hh)
   .exact h1 z hz
  .rename_i hy;refine jC5.2 ⟨fun z hz=>?_,h⟩;rcases jA3.1 hz with rfl|hz
   .exact hy
   .exact ho.ntrans _ _ _ (h1 z hz) hy
theorem zCv{β:Type}{cf : β->β->Int}(ho:Ord cf):∀l:List β,(zHW cf l).Perm l/\(zHW cf l).Pairwise (fun x y=>¬cf y x<0)
 |[]=>⟨.refl _,.nil⟩
 |x::l=>by obtain⟨h1,h2⟩:=zCv ho l;exact⟨(zCt cf x _).trans (h1.cons x),zDh ho x h2⟩
theorem zK8{β:Type}{cf : β->β->Int}(ho:Ord cf)(l:List β):pA cf l=zHW cf l:=(zBG ho (zCv ho l).1 (zCv ho l).2).symm
theorem zUh:aI a7=[iD 1,iD 2,iD 3]:=by rw[aI,zVj];kernel_rfl
def zUg:wU:=[⟨iD 1,iD 10,iD 11⟩,⟨iD 2,iD 11,iD 12⟩,⟨iD 3,iD 10,iD 12⟩]
theorem zJi:bY a7=zUg:=by unfold bY;rw[zUh];kernel_rfl
def iS:List wF:=[[iD 1,iD 2],[iD 3]]
theorem uZ:bM a7 (iD 10) (iD 12)=iS:=by unfold bM;rw[zJi];kernel_rfl
theorem zNy:bM a7 (iD 12) (iD 10)=[]:=by unfold bM;rw[zJi];kernel_rfl
theorem zR4:zAk a7 [iD 1,iD 2] (uB 5) 100=(uB 5,10,0):=by kernel_rfl
theorem zUj:zAv a7 (iD 2) 0=[0,1]:=by kernel_rfl
theorem zUi:zAv a7 (iD 1) 1=[]:=by kernel_rfl
theorem zUl:bJ a7 (yO (iD 10)) 1=([uB 0,uB (-1),uB 1],0):=by unfold bJ;rw[zK8 zEB.ord];kernel_rfl
theorem zR3:r6 a7 (iD 10) (iD 12) 1 100=(uB (-1),iS,19):=by unfold r6;rw[zUl,uZ];kernel_rfl
theorem zVf(a b:wB)(ha:a.length<=1000):my 23 [.sl a.length (yC a),.sl b.length (yC b)] [] (bl (decide (a=b))) []:=by
 refine mq [] [.slot 4] func23 (by kernel_rfl) ?_
 (conv in kq _ _=>cbv)
 by_cases hab:a.length=b.length
 .have hab':(a.length:Int)=b.length:=by omega
  simp[hab];intro hlb;refine qO (S:=Nat) (fun i=>[(0,.sl a.length (yC a)),(1,.sl b.length (yC b)),(5,int i)]) (fun s=>[]) (fun i=>i<=a.length/\a.take i=b.take i) (fun i=>a.length-i) 0 (by simp)
   (mw [] 0 (by rfl) (by simp[hab])) ?_
  rintro i ⟨hi,hn⟩;by_cases h:i<a.length
  .have hb:i<b.length:=by omega
   have hpa:=iG h;have hpb:=iG hb;have hane:¬a=[]:=fun e=>by rw[e]at h;simp at h
   have hbne:¬b=[]:=fun e=>by rw[e]at hb;simp at hb
   have hw:=qF h (show a.length<=maxLen by simp[maxLen];omega);by_cases hx:a[i]=b[i]
   .simp[h,hb,hpa,hpb,hane,hbne,hx];intro _;refine zS (i+1) ⟨h,?_⟩ (by omega) (mw [] 0 (by rfl) (by simp[hw]));rw[jA8 h,jA8 hb,hn,hx]
   .have hne:a≠b:=fun e=>hx (by subst e;rfl)
    simp[h,hb,hpa,hpb,hane,hbne,hx];exact fun _=>zA 0 (by simp[hne])
  .have:i=a.length:=by omega
   subst this;simp;have:a=b:=by rw[jAu,hab,jAu]at hn;exact hn
   exact fun _=>zA 0 (by simp[this])
 .have hne:a≠b:=fun e=>hab (by rw[e])
  have hab':¬(a.length:Int)=b.length:=by omega
  simp[hab'];exact fun _ _=>zA 0 (by simp[hne])
def zHx:K:=(Z (G [M 53 4,kQi 54 53 0 true,M 55 54,T 55 false (M 56 6),T 55 false (kQi 57 56 0 true),kPt 58 55 57,M 59 58,T 59 false (M 60 9),T 59 false (kQi 61 60 0 true),kPt 62 59 61,M 63 62,T 63 false (M 64 12),T 63 false (kQi 65 64 19 true),kPt 66 63 65,M 67 66,T 67 false (M 68 5),T 67 false (kN 69 68),T 67 false (kBi 70 69 0 .gtr),kPt 71 67 70,M 72 71,T 72 false (M 73 8),T 72 false (kQi 74 73 10 true),kPt 75 72 74] (Y 75 (G [kMb 0 false] kr) ks)) (Z (K.dops [(0,0,J 76 7 3),(1,0,kC 77 51 [(kc 5)]),(2,0,kC 78 18 [(kt 76),(kt 77)]),(3,0,kQi 79 78 0 false),(4,0,M 80 79),(5,0,T 80 true (J 81 10 3)),(6,0,T 80 true (kC 82 51 [(kc (-1))])),(7,0,T 80 true (kC 83 18 [(kt 81),(kt 82)])),(8,0,T 80 true (kQi 84 83 0 false)),(9,0,kPf 85 80 84),(10,0,M 13 85)]) (Z (K.dops [(0,0,M 86 13),(1,0,M 87 86),(2,0,T 87 true (M 88 3)),(3,0,T 87 true (M 89 2)),(4,0,T 87 true (kC 90 22 [(kt 88),(kt 89)])),(5,0,kPf 91 87 90),(6,0,M 92 91),(7,0,T 92 true (M 93 11)),(8,0,T 92 true (M 94 2)),(9,0,T 92 true (kC 95 22 [(kt 93),(kt 94)])),(10,0,kPf 96 92 95),(11,0,M 97 96),(12,0,T 97 true (J 98 1 2)),(13,0,T 97 true (kC 99 50 [(kc 2)])),(14,0,T 97 true (kC 100 24 [(kt 98),(kt 99),(kc 0)])),(15,0,⟨some (97,true),.bslice (some 101) 3 1 2 [ki,ki] [(0,1,(kc 0)),(1,1,(kc 1))]⟩),(16,0,T 97 true (kC 102 23 [(kt 100),(kt 101)])),(17,0,kPf 103 97 102),(18,0,M 104 103),(19,0,T 104 true (J 105 1 2)),(20,0,T 104 true (kC 106 50 [(kc 1)])),(21,0,T 104 true (kC 107 24 [(kt 105),(kt 106),(kc 1)])),(22,0,
 T 104 true (kN 108 107)),(23,0,T 104 true (kQi 109 108 0 false)),(24,0,kPf 110 104 109),(25,0,M 0 110)]) kr)))
def zQj:K:=G [kMb 0 false] (G [kC 14 49 [],kZ 1 [kl,kl],S 1 14 2] (G [kC 15 50 [(kc 1)],kC 16 50 [(kc 2)],kd 17 31 3 2 [ki,ki,ki,ki,ki,ki] [(0,3,(kt 15)),(3,3,(kt 16))],kC 18 50 [(kc 3)],kd 19 31 3 1 [ki,ki,ki] [(0,3,(kt 18))],kd 20 28 1 2 [kl,kl] [(0,1,(kt 17)),(1,1,(kt 19))],M 2 20] (Z (K.dops [(0,0,J 22 1 2),(1,0,kC 23 50 [(kc 10)]),(2,0,kC 24 50 [(kc 12)]),(3,0,kC 25 20 [(kt 22),(kt 23),(kt 24)]),(4,0,M 21 25),(5,0,kE 26 21 0),(6,0,kE 27 21 1),(7,0,M 3 26),(8,0,M 4 27)]) (Z (K.dops [(0,0,J 29 1 2),(1,0,kC 30 50 [(kc 12)]),(2,0,kC 31 50 [(kc 10)]),(3,0,kC 32 20 [(kt 29),(kt 30),(kt 31)]),(4,0,M 28 32),(5,0,kE 33 28 0),(6,0,kE 34 28 1),(7,0,M 5 33),(8,0,M 6 34)]) (Z (K.dops [(0,1,J 36 1 2),(1,0,M 37 2),(2,1,kXi 38 37 1 0),(3,1,L 39 38 1),(4,1,kC 40 51 [(kc 5)]),(5,1,kC 41 16 [(kt 36),(kt 39),(kt 40),(kc 100)]),(6,0,M 35 41),(7,0,kE 42 35 0),(8,0,kE 43 35 1),(9,0,kE 44 35 2),(10,0,kZ 7 [ki,ki,kl]),(11,0,S 7 42 3),(12,0,M 8 43),(13,0,M 9 44)]) (Z (K.dops [(0,1,J 46 1 2),(1,1,kC 47 50 [(kc 10)]),(2,1,kC 48 50 [(kc 12)]),(3,1,kC 49 26 [(kt 46),(kt 47),(kt 48),(kc 1),(kc 100)]),(4,0,M 45 49),(5,0,kE 50 45 0),(6,0,kE 51 45 1),(7,0,kE 52 45 2),(8,0,kZ 10 [ki,ki,kl]),(9,0,S 10 50 3),(10,0,M 11 51),(11,0,M 12 52)]) (K.wk zHx)))))))
theorem zYa:ky f19 zQj:=m_ (by kernel_rfl)
theorem zYO:Sml a7:=by unfold Sml;decide
theorem zZm:my 20 [.agg (zN a7),.agg (zL (iD 10)),.agg (zL (iD 12))] [] (.tup [.sl 2 (jZ iS),int 0]) []:=by have:=zDK zBi (iD 10) (iD 12) (by rw[uZ];decide);unfold oA at this;rw[uZ,if_pos (by decide)]at this;exact this
theorem zZn:my 20 [.agg (zN a7),.agg (zL (iD 12)),.agg (zL (iD 10))] [] (.tup [.sl 0 [],int 0]) []:=by have:=zDK zBi (iD 12) (iD 10) (by rw[zNy];decide);unfold oA at this;rw[zNy,if_pos (by decide)]at this;exact this
theorem zZj:my 16 [.agg (zN a7),.sl 2 (zV [iD 1,iD 2]),.agg (zC (uB 5)),int 100] [] (.tup [.agg (zC (uB 5)),int 10,int 0]) []:=by have:=zQ9 zBi [iD 1,iD 2] (by decide) (uB 5) (by decide) 100 (by omega) (by omega);rw[zR4]at this;exact this
theorem zZi:my 26 [.agg (zN a7),.agg (zL (iD 10)),.agg (zL (iD 12)),int 1,int 100] [] (.tup [.agg (zC (uB (-1))),.sl 2 (jZ iS),int 19]) []:=by have:=zQ7 zBi zYO (iD 10) (iD 12) (by rw[uZ];decide) (by rw[uZ];decide) 1 100 (by omega) (by omega) (zI0 _ _ _);rw[zR3]at this;exact this
theorem zZl:my 24 [.agg (zN a7),.agg (zL (iD 2)),int 0] [] (.sl 2 (yC [0,1])) []:=by have:=zGo a7 (by decide) (iD 2) 0;rw[zUj]at this;exact this
theorem zZk:my 24 [.agg (zN a7),.agg (zL (iD 1)),int 1] [] (.sl 0 []) []:=by have:=zGo a7 (by decide) (iD 1) 1;rw[zUi]at this;exact this
theorem qGm:wpK prog 0 zHx (fin [RS.slot 0] (rY 0 (bl true) [])) (qS [(1,.ptr 0 0),(2,.sl 2 (jZ iS)),(3,.sl 2 (jZ iS)),(4,int 0),(5,.sl 0 []),(6,int 0),(7,.ptr 1 0),(8,int 10),(9,int 0),(10,.ptr 2 0),(11,.sl 2 (jZ iS)),(12,int 19)]) [.box (zN a7),.box (zC (uB 5)),.box (zC (uB (-1)))]:=by
 have hP:zN a7=[.sl a7.mods.length (qG a7.mods),.sl a7.defs.length (z6 a7.defs)]:=rfl;have f2:=zZl;have f1:=zZk;generalize a7=P at *
 have c1:=gQ (uB 5) (uB 5);have c2:=gQ (uB (-1)) (uB (-1));rw[nE]at c1 c2;have s1:my 22 [.sl 2 (jZ iS),.sl 2 (jZ iS)] [] (bl true) []:=by have:=zVg iS iS (by decide);rw[show decide (iS=iS)=true from decide_eq_true rfl]at this;exact this
 have s2:my 23 [.sl 2 (yC [0,1]),.sl 2 (yC [0,1])] [] (bl true) []:=by have:=zVf [0,1] [0,1] (by decide);rw[show decide ([0,1]=([0,1]:wB))=true from decide_eq_true rfl]at this;exact this
 unfold zHx;simp[hP,zC];refine qA (zEQ 5) (by simp) (by simp[zC]) ?_
 try simp[zC]
 refine qA c1 (by simp[zC]) (by simp) ?_
 try simp[zC]
 refine qA (zEQ (-1)) (by simp) (by simp[zC]) ?_
 try simp[zC]
 refine qA c2 (by simp[zC]) (by simp) ?_
 try simp[zC]
 refine qA s1 (by simp) (by simp) ?_
 try simp
 refine qA s1 (by simp) (by simp) ?_
 try simp
 refine qA (iU 2) (by simp) (by simp[zL]) ?_
 try simp[zL]
 refine qA f2 (by simp[hP,zL]) (by simp) ?_
 try simp
 refine qA s2 (by simp[yC]) (by simp) ?_
 try simp
 refine qA (iU 1) (by simp) (by simp[zL]) ?_
 try simp[zL]
 refine qA f1 (by simp[hP,zL]) (by simp) ?_
 try simp
 exact zA 0 (by simp)
theorem zMd:my 19 [] [] (bl true) []:=by
 have hP:zN a7=[.sl a7.mods.length (qG a7.mods),.sl a7.defs.length (z6 a7.defs)]:=rfl;have hx:=zUf;have p1:=zZm;have p2:=zZn;have pa:=zZj;have pg:=zZi;have hT:=qGm;generalize a7=P at *
 refine zM func19 rfl zYa (rs:=[.slot 0]) (by kernel_rfl) ?_;unfold zQj;simp;refine mu hx (by simp[hP]) ?_;simp[hP];refine mu (iU 1) (by simp[zL]) ?_;simp;refine mu (iU 2) (by simp[zL]) ?_;simp[zL];refine mu (iU 3) (by simp[zL]) ?_;simp[zL];refine qA (iU 10) (by simp[hP,zL,zV]) (by simp[zL,zV]) ?_
 try simp[zL,zC]
 refine qA (iU 12) (by simp[hP,zL,zV]) (by simp[zL,zV]) ?_
 try simp[zL,zC]
 refine qA (p1) (by simp[hP,zL,zV]) (by simp[zL,zV]) ?_
 try simp[zL,zC]
 refine qA (iU 12) (by simp[hP,zL,zV]) (by simp[zL,zV]) ?_
 try simp[zL,zC]
 refine qA (iU 10) (by simp[hP,zL,zV]) (by simp[zL,zV]) ?_
 try simp[zL,zC]
 refine qA (p2) (by simp[hP,zL,zV]) (by simp[zL,zV]) ?_
 try simp[zL,zC]
 refine j3 (zEQ 5) (by simp[hP,zL,zV,zC]) (by simp[zL,zV,zC]) ?_
 try simp[zL,zC]
 refine j3 (pa) (by simp[hP,zL,zV,zC]) (by simp[zL,zV,zC]) ?_
 try simp[zL,zC]
 refine j3 (iU 10) (by simp[hP,zL,zV]) (by simp[zL,zV]) ?_
 try simp[zL,zC]
 refine j3 (iU 12) (by simp[hP,zL,zV]) (by simp[zL,zV]) ?_
 try simp[zL,zC]
 refine j3 (pg) (by simp[hP,zL,zV,zC]) (by simp[zL,zV,zC]) ?_
 try simp[zL,zC]
 refine⟨_,_,kf [0,1,2] 0 (by rfl) ?_ ?_,hT⟩
 .simp[hP,zC]
 .simp[iS,jZ,zV]
theorem zLJ{l:wB}(hl:∀x∈l,w64 x=x):(bY (u6 l)).length<=7:=by
 have h1:(bY (u6 l)).length=(gO (u6 l)).length:=by rw[<-mG (zG5 hl)];exact(fU _).length_eq
 rw[h1];have h2:gO (u6 l)=(aJ l).filterMap yB:=rfl;rw[h2];unfold aJ;rw[List.filterMap_append,jA5];have h3:((yU l (yY l) ⟨1,40⟩).1.filterMap yB)=[]:=by rw[List.filterMap_eq_nil_iff];intro a ha;have:=(sS hl a ha).kind;unfold yB;rw[if_neg (by omega)]
 rw[h3];have h4:=jDe yB (aU l (yU l (yY l) ⟨1,40⟩).1 (gN l (yU l (yY l) ⟨1,40⟩).2 8).toNat (yU l (yY l) ⟨1,40⟩).2.tick).1;rw[gX]at h4;obtain⟨v0,v1⟩:=dO hl (yU l (yY l) ⟨1,40⟩).2 (n:=8) (by omega);simp only[jB9];omega
def zQz:K:=(G [kMn 12] (G [M 54 12,D 55 4 2,L 56 55 1,kP 57 46 3 40 54 56,M 12 57] (G [M 58 12,D 59 4 2,S 59 58 1] (Z (G [M 60 2,kC 61 12 [(kt 60),(kc 5)]] (K.block 2 (G [kQi 63 61 0 false,M 62 63] (Y 62 (K.ops [M 64 3,D 65 4 0,S 65 64 1]) (G [kQi 67 61 1 false,M 66 67] (Y 66 (K.ops [M 68 3,D 69 4 1,S 69 68 1]) (G [kQi 71 61 2 false,M 70 71] (Y 70 (K.ops [D 72 4 1,L 73 72 1,kBi 74 73 1 .add,D 75 4 1,S 75 74 1]) (G [kQi 77 61 3 false,M 76 77] (Y 76 (K.dops [(0,0,D 78 4 2),(1,0,L 79 78 1),(2,0,M 80 3),(3,0,kC 81 12 [(kt 80),(kc 5)]),(4,0,kb 82 [ki,ki,kl] [(0,1,(kt 81))]),(5,0,kd 83 46 3 1 [ki,ki,kl] [(0,3,(kt 82))]),(6,0,kP 84 46 3 40 79 83),(7,0,D 85 4 2),(8,0,S 85 84 1)]) (G [kQi 87 61 4 false,M 86 87] (Y 86 (G [D 88 4 2,L 89 88 1,kN 90 89,kBi 91 90 0 .gtr] (Y 91 (K.wk (K.ops [D 92 4 2,L 93 92 1,⟨none,.slc (some 94) (kt 93) 3 (some (kc 1)) none none⟩,D 95 4 2,S 95 94 1])) ks)) ks)))))))))))) (G [J 96 4 3,S 8 96 3] kr)))))
def zXE:K:=G [kO 4 0,kZ 8 [ki,ki,kl]] (Z (G [M 13 1,kBi 14 13 0 .gtr] (Y 14 (G [kMi 9 0] (K.block 0 (K.loop (Z (G [M 15 9,D 16 4 2,L 17 16 1,kN 18 17,kB 19 15 18 .lss] (Y 19 ks (K.exit 0))) (Z (K.block 1 (G [D 22 4 2,L 23 22 1,M 24 9,kX 25 23 24 3,J 26 25 3,kC 27 41 [(kt 26)],M 10 27] (Z (G [M 28 1,M 29 10,kB 30 28 29 .leq] (Y 30 (G [kMn 11] (G [M 31 11,D 32 4 2,L 33 32 1,kP 34 46 3 40 31 33,D 35 4 2,S 35 34 1] (Z (K.dops [(0,0,D 36 4 2),(1,0,L 37 36 1),(2,0,M 38 9),(3,0,D 39 4 2),(4,0,L 40 39 1),(5,0,M 41 9),(6,0,kX 42 40 41 3),(7,0,J 43 42 3),(8,0,M 44 1),(9,0,kBi 45 44 1 .sub),(10,0,M 46 2),(11,0,M 47 3),(12,0,kC 48 15 [(kt 43),(kt 45),(kt 46),(kt 47)]),(13,0,kX 49 37 38 3),(14,0,S 49 48 3)]) (G [J 50 4 3,S 8 50 3] kr)))) ks)) (K.ops [M 51 1,M 52 10,kB 53 51 52 .sub,M 1 53])))) (K.ops [M 20 9,kBi 21 20 1 .add,M 9 21])))))) ks)) (K.wk zQz))
theorem qE9:ky f15 zXE:=m_ (by kernel_rfl)
theorem zKD:∀(R:wI) (k:Nat),(zR R).take (k*3)=zR (R.take k)
 |[],k=>by simp
 |v::R,0=>by simp
 |v::R,k+1=>by rw[show (k+1)*3=k*3+3 by omega];simp[zKD R k]
theorem zKC:∀(R:wI) (k:Nat),(zR R).drop (k*3)=zR (R.drop k)
 |[],k=>by simp
 |v::R,0=>by simp
 |v::R,k+1=>by rw[show (k+1)*3=k*3+3 by omega];simp[zKC R k]
def zD4:List Val->Int->Nat->Option (Nat×Int)
 |[],_,_=>none
 |v::l,a,i=>if a<=zZ v then some (i,a)else zD4 l (a-zZ v) (i+1)
theorem zHi:∀{l:wI} {a:Int} {i j:Nat} {b:Int},zD4 l a i=some (j,b)->i<=j/\j<i+l.length
 |v::l,a,i,j,b,h=>by
  unfold zD4 at h;split at h
  .simp only[jA2,jBg]at h;simp only[jA9];omega
  .have:=zHi h;simp only[jA9];omega
theorem zKB:∀{l:wI} {a:Int} {i j:Nat} {b:Int},0<a->zD4 l a i=some (j,b)->0<b/\b<=a
 |v::l,a,i,j,b,ha,h=>by
  unfold zD4 at h;split at h
  .simp only[jA2,jBg]at h;omega
  .have:=zKB (by omega) h;omega
def oC(v:Val)(c b:Int):Val:=if c=0 then .mk b v.n v.kids else if c=1 then .mk v.k b v.kids else if c=2 then .mk v.k (w64 (v.n+1)) v.kids else if c=3 then .mk v.k v.n (v.kids++[.mk (yM b 5) 0 []])else .mk v.k v.n (v.kids.drop 1)
theorem zFm(v:Val)(c b:Int):zZ (oC v c b)<=zZ v+1:=by
 have h:=i5 v.kids 1;unfold oC;rw[aR v];split
 .rw[aR];simp only[Val.kids];omega
 .split
  .rw[aR];simp only[Val.kids];omega
  .split
   .rw[aR];simp only[Val.kids];omega
   .split
    .rw[aR];simp only[zH,dC,qK,zZ];omega
    .rw[aR];simp only[zH];omega
theorem zMD{l:wI}{i:Nat}(h:i<l.length)(w:Val):qK (l.set i w)+zZ l[i]=qK l+zZ w:=by rw[List.set_eq_take_append_cons_drop,if_pos h,dC];have h1:=i5 l i;rw[jAp h]at h1;simp only[qK]at h1 ⊢;omega
theorem qHv(v:Val)(hv:zZ v<=1000)(how b:Int)(hb:0<=b/\b<=1000)(hw:w64 how=how) :
 wpK prog 0 zQz (fin [RS.cell 8 3 true] (rY 0 (.agg (zC (oC v (yM how 5) b))) [])) (qS [(2,int how),(3,int b),(4,.ptr 0 0),(8,.ptr 1 0)]) [.box (zC v),.box [int 0,int 0,.nil]]:=by
 have r1:=eU how 5 (by omega);have r2:=eU b 5 (by omega);obtain⟨c0,c1⟩:=cC (k:=5) hw (by omega);generalize yM how 5=c at *
 have hkl:=eL v.kids;rw[aR]at hv;unfold zQz;by_cases hk:v.kids=[]
 .have hen:zC v=[int v.k,int v.n,.sl 0 []]:=by simp[zC,hk]
  simp[hen]
  intros
  refine mu r1 (by simp) ?_;rcases (by omega:c=0\/c=1\/c=2\/c=3\/c=4)with rfl|rfl|rfl|rfl|rfl
  .simp;exact zA 1 (by simp[oC,zC,hk,zX,zQ,zH])
  .simp;exact zA 1 (by simp[oC,zC,hk,zX,zQ,zH])
  .simp;exact zA 1 (by simp[oC,zC,hk,w64,zX,zQ,zH])
  .simp;refine qA r2 (by simp) (by simp) ?_;simp
   intros
   refine⟨by simp[maxLen],?_⟩;exact zA 1 (by simp[oC,zC,hk,zX,zQ,zH])
  .simp;exact zA 1 (by simp[oC,zC,hk,zX,zQ,zH])
 .have hen:zC v=[int v.k,int v.n,.sl v.kids.length (zR v.kids)]:=by simp[zC]
  have hpos:0<v.kids.length:=List.length_pos_iff.2 hk;have hd1:(zR v.kids).drop 3=zR (v.kids.drop 1):=by
   cases hkk:v.kids with
   |nil=>exact(hk hkk).elim
   |cons x l=>simp
  simp[hen,hk]
  intros
  refine⟨⟨by simp[maxLen];omega,by omega⟩,?_⟩;refine mu r1 (by simp) ?_;rcases (by omega:c=0\/c=1\/c=2\/c=3\/c=4)with rfl|rfl|rfl|rfl|rfl
  .simp;exact zA 1 (by simp[oC,zC,zX,zQ,zH])
  .simp;exact zA 1 (by simp[oC,zC,zX,zQ,zH])
  .simp;exact zA 1 (by simp[oC,zC,w64,zX,zQ,zH])
  .simp;refine qA r2 (by simp) (by simp) ?_;simp
   intros
   refine⟨⟨by simp[maxLen];omega,by omega⟩,?_⟩;exact zA 1 (by simp[oC,zC,zX,zQ,zH])
  .simp[hpos];refine⟨_,_,zP (l:=[(4,.ptr 0 0),(8,.ptr 1 0)]) (U':=[.box (zC v),.box [int 0,int 0,.nil]]) [0,1] 1 (by simp) (by decide) (by simp[hen]) (by simp),?_⟩;have ht1:List.take ((v.kids.length-1)*3) (zR v.kids.tail)=zR v.kids.tail:=jAe (by simp);simp[hen,hd1];refine⟨by omega,?_⟩;exact zA 0 (by simp[oC,zC,ht1,zX,zQ,zH])
theorem zHj(v:Val)(hv:zZ v<=1000)(at_ how b:Int)(h0:at_<=1000)(h1 : -1000<=at_)(hb:0<=b/\b<=1000)(hw:w64 how=how) :
 ∃w,zZ w<=zZ v+1/\my 15 [.agg (zC v),int at_,int how,int b] [] (.agg (zC w)) []:=by
 have hen:zC v=[int v.k,int v.n,.sl v.kids.length (zR v.kids)]:=by simp[zC]
 have hR:=qHv v hv how b hb hw;have hkl:=eL v.kids;have hsz:=aR v;by_cases hp:0<at_
 .obtain⟨w,hw1,hcase⟩:∃w,zZ w<=zZ v+1/\((zD4 v.kids at_ 0=none/\w=oC v (yM how 5) b)\/∃(j:Nat) (a:Int) (w':Val) (hj:j<v.kids.length),zD4 v.kids at_ 0=some (j,a)/\0<a/\a<=1000 /\
   my 15 [.agg (zC v.kids[j]),int (a-1),int how,int b] [] (.agg (zC w')) []/\w=.mk v.k v.n (v.kids.set j w')):=by
   cases hs:zD4 v.kids at_ 0 with
   |none=>exact⟨_,zFm _ _ _,.inl ⟨rfl,rfl⟩⟩
   |some ja =>
    obtain⟨j,a⟩:=ja;obtain⟨_,hj⟩:=zHi hs;obtain⟨ha0,ha1⟩:=zKB hp hs;have hj:j<v.kids.length:=by omega
    obtain⟨w',hw',rw'⟩:=zHj v.kids[j] (by have:=y4 (jA0 hj);omega) (a-1) how b (by omega) (by omega) hb hw;have hset:=zMD hj w';exact⟨_,by rw[aR,zH];omega,.inr ⟨j,a,w',hj,rfl,ha0,by omega,rw',rfl⟩⟩
  refine⟨w,hw1,?_⟩;refine zI func15 rfl qE9 (rs:=[.cell 8 3 true]) (by kernel_rfl) ?_;unfold zXE;simp[hen,hp];refine qO (S:=Nat×Int) (fun s=>[(1,int s.2),(2,int how),(3,int b),(4,.ptr 0 0),(8,.ptr 1 0),(9,int s.1)]) (fun _=>[.box (zC v),.box [int 0,int 0,.nil]])
   (fun s=>s.1<=v.kids.length/\0<s.2/\s.2<=1000/\zD4 v.kids at_ 0=zD4 (v.kids.drop s.1) s.2 s.1) (fun s=>v.kids.length-s.1) (0,at_) ⟨by simp,hp,h0,by simp⟩
   (mw [0,1] 0 (by rfl) (by simp[hen])) ?_
  rintro⟨i,a⟩ ⟨hi,ha0,ha1,hsp⟩;simp only at hi ha0 ha1 hsp;by_cases h:i<v.kids.length
  .have hcd:=qT h;have hks:=y4 (jA0 h);have hne:¬v.kids=[]:=fun e=>by rw[e]at h;simp at h
   have rz:=fT v.kids[i];rw[nL _ (by omega)]at rz;rw[jAp h,zD4]at hsp;have hw9:=jY i (by omega);have hwa:=z8 (a-zZ v.kids[i]) (by omega);have hwm:=z8 (a-1) (by omega);by_cases hle:a<=zZ v.kids[i]
   .rw[if_pos hle]at hsp;rcases hcase with ⟨hc,_⟩|⟨j,a',w',hj,hc,_,_,rw',hwe⟩
    .rw[hsp]at hc;cases hc
    .rw[hsp]at hc;simp only[jA2,jBg]at hc;obtain⟨rfl,rfl⟩:=hc;have hst:(zR v.kids).take (i*3)++(.lit (.int .i64 w'.k)::.lit (.int .i64 w'.n)::.sl w'.kids.length (zR w'.kids)::(zR v.kids).drop (i*3+3))=zR (v.kids.set i w'):=by rw[List.set_eq_take_append_cons_drop,if_pos h,bS,iC,zKD,show i*3+3=(i+1)*3 by omega,zKC]
     have hb3:i*3+3<=v.kids.length*3:=by omega
     clear hsp;generalize v.kids[i]=x at *
     simp[hen,h,hne,hcd]
     intros
     refine mu rz (by simp[zC]) ?_;simp[hle,hne];refine⟨⟨by simp[maxLen];omega,by omega⟩,?_⟩;simp[h,hne,hcd,hb3,hwm];refine qA rw' (by simp[zC]) (by simp[zC]) ?_;simp[h,hne,hcd,hb3,hwm,zC];exact zA 1 (by simp[hwe,zC,hst,zX,zQ,zH])
   .rw[if_neg hle]at hsp;generalize v.kids[i]=x at *
    simp[hen,h,hne,hcd]
    intros
    refine mu rz (by simp[zC]) ?_;simp[hle,hwa];exact zS (i+1,a-zZ x) ⟨h,by simp only;omega,by simp only;omega,hsp⟩ (by simp only;omega) (mw [0,1] 0 (by rfl) (by simp[hen,hw9]))
  .have hie:i=v.kids.length:=by omega
   subst hie;rw[List.drop_length,zD4]at hsp;rcases hcase with ⟨_,hwe⟩|⟨j,a',w',hj,hc,_⟩
   .rw[hwe];simp[hen]
    intros
    refine⟨_,_,kf [0,1] 0 (by rfl) ?_ ?_,hR⟩
    .simp[hen]
    .simp
   .rw[hsp]at hc;cases hc
 .refine⟨oC v (yM how 5) b,zFm _ _ _,?_⟩;refine zI func15 rfl qE9 (rs:=[.cell 8 3 true]) (by kernel_rfl) ?_;unfold zXE;simp[hen,hp];refine⟨_,_,kf [0,1] 0 (by rfl) ?_ ?_,hR⟩
  .simp[hen]
  .simp
termination_by zZ v
decreasing_by exact y4 (jA0 _)
theorem zMp{l:wB}(hl:∀x∈l,w64 x=x){P:Prg}(h:PrgOk l P):(bY P).length<=7:=by
 have h1:(bY P).length=(gO P).length:=by rw[<-mG (h.fit hl)];exact(fU _).length_eq
 have h5:=h.len5;have h0:∃d ds,P.defs=d::ds/\d.kind=0:=by
  have hh:=h.heads;cases hd:P.defs with
  |nil=>rw[hd]at h5;simp at h5
  |cons d ds =>
   refine⟨d,ds,rfl,?_⟩;have hx:(P.defs.map Dfn.hd)[0]?=(hsV l (nmV l))[0]?:=by rw[hh]
   rw[hd]at hx;simp only[jAi,jB2]at hx;have hl0:0<(qI l (nmV l:Int)).length:=by have:=(b6 l (nmV l:Int)).1;omega
   have hp:(qI l (nmV l:Int))[0]'hl0=dB l (nmV l):=by simp[qI]
   have hg:=nT (nmV l:Int) (qI l (nmV l)) hl0;rw[hp]at hg;rw[jA1 (by simpa using hl0),hg]at hx;exact congrArg Hd.kind (jB0 hx)
 obtain⟨d,ds,hd,hk⟩:=h0;have h2:gO P=P.defs.filterMap yB:=rfl;rw[h1,h2,hd];have h3:yB d=none:=by unfold yB;rw[if_neg (by omega)]
 rw[List.filterMap_cons,h3];have:=jDe yB ds;rw[hd]at h5;simp only[jA9]at h5;simp only;omega
theorem zMr(l:wB)(hl:∀x∈l,w64 x=x)(which:Int):∃(P:Prg) (hs:wP),Fit P hs/\1<=P.defs.length/\(bY P).length<=7/\my 10 [.sl l.length (yC l),int which] [] (.agg (zN P)) []:=by
 have hw:yM which 5=yM which 5:=rfl;have ra:=eU which 5 (by omega);by_cases h:yM which 5=0
 .obtain⟨P,hP,rP⟩:=zUX l hl;have h5:=hP.len5;refine⟨P,_,hP.fit hl,by omega,zMp hl hP,?_⟩;refine mq [] [.cell 4 2 true] func10 (by kernel_rfl) ?_
  (conv in kq _ _=>cbv)
  simp;refine mu ra (by simp) ?_;simp[h];refine mu rP (by simp[zN]) ?_;simp[zN];exact zA 0 (by simp[zN])
 .have rP:=zRM hl;have h2:=zCp hl;refine⟨u6 l,_,zG5 hl,by show 1<=(aJ l).length;omega,zLJ hl,?_⟩;refine mq [] [.cell 4 2 true] func10 (by kernel_rfl) ?_
  (conv in kq _ _=>cbv)
  simp;refine mu ra (by simp) ?_;simp[h];refine mu rP (by simp[zN]) ?_;simp[zN];exact zA 0 (by simp[zN])
def zHs:K:=(G [kMi 25 0] (K.block 4 (K.loop (Z (G [M 109 25,kBi 110 109 3 .lss] (Y 110 ks (K.exit 4))) (Z (K.block 5 (Z (K.dops [(0,1,J 114 13 2),(1,0,M 115 16),(2,0,M 116 17),(3,1,kX 117 115 116 1),(4,1,L 118 117 1),(5,0,M 119 22),(6,0,M 120 24),(7,1,kX 121 119 120 3),(8,1,J 122 121 3),(9,0,M 123 23),(10,0,M 124 25),(11,1,kX 125 123 124 1),(12,1,L 126 125 1),(13,1,kC 127 16 [(kt 114),(kt 118),(kt 122),(kt 126)]),(14,0,M 113 127),(15,0,kE 128 113 0),(16,0,kE 129 113 1),(17,0,kE 130 113 2),(18,0,kZ 26 [ki,ki,kl]),(19,0,S 26 128 3),(20,0,M 27 129),(21,0,M 28 130)]) (Z (K.dops [(0,1,J 132 13 2),(1,0,M 133 16),(2,0,M 134 17),(3,1,kX 135 133 134 1),(4,1,L 136 135 1),(5,0,M 137 22),(6,0,M 138 24),(7,1,kX 139 137 138 3),(8,1,J 140 139 3),(9,0,M 141 23),(10,0,M 142 25),(11,1,kX 143 141 142 1),(12,1,L 144 143 1),(13,1,kC 145 17 [(kt 132),(kt 136),(kt 140),(kt 144)]),(14,0,M 131 145),(15,0,kE 146 131 0),(16,0,kE 147 131 1),(17,0,kE 148 131 2),(18,0,kZ 29 [ki,ki,kl]),(19,0,S 29 146 3),(20,0,M 30 147),(21,0,M 31 148)]) (G [M 149 28,M 150 31,kQ 151 149 150 true,M 152 151,T 152 false (M 153 27),T 152 false (M 154 30),T 152 false (kQ 155 153 154 true),kPt 156 152 155,M 157 156,T 157 false (J 158 26 3),T 157 false (J 159 29 3),T 157 false (kC 160 18 [(kt 158),(kt 159)]),T 157 false (kQi 161 160 0 true),kPt 162 157 161] (Y 162 (G [kMb 12 false] kr) ks))))) (K.ops [M 111 25,kBi 112 111 1 .add,M 25 112]))))))
def zHt:K:=(G [kMi 24 0] (K.block 2 (K.loop (Z (G [M 105 24,kBi 106 105 2 .lss] (Y 106 ks (K.exit 2))) (Z (K.block 3 (K.wk zHs)) (K.wk (K.ops [M 107 24,kBi 108 107 1 .add,M 24 108])))))))
def zHv:K:=(Z (K.dops [(0,0,J 89 18 3),(1,0,J 90 18 3),(2,0,M 91 4),(3,0,kC 92 12 [(kt 91),(kc 5)]),(4,0,M 93 4),(5,0,kBi 94 93 5 .quo),(6,0,kC 95 12 [(kt 94),(kc 6)]),(7,0,M 96 5),(8,0,kC 97 12 [(kt 96),(kc 100)]),(9,0,kC 98 15 [(kt 90),(kt 92),(kt 95),(kt 97)]),(10,0,kd 99 46 3 2 [ki,ki,kl,ki,ki,kl] [(0,3,(kt 89)),(3,3,(kt 98))]),(11,0,M 22 99)]) (G [M 100 5,kC 101 12 [(kt 100),(kc 60)],M 102 5,kBi 103 102 3000 .rem,kd 104 3 1 3 [ki,ki,ki] [(0,1,(kc 2000)),(1,1,(kt 101)),(2,1,(kt 103))],M 23 104] (K.wk zHt)))
def zHu:K:=(Z (G [kMi 17 0] (K.block 0 (K.loop (Z (G [M 58 17,M 59 16,kN 60 59,kB 61 58 60 .lss] (Y 61 ks (K.exit 0))) (Z (K.block 1 (G [M 64 4,kb 65 [ki,ki,kl] [(1,1,(kt 64))],kZ 18 [ki,ki,kl],S 18 65 3] (Z (G [M 66 16,M 67 17,kX 68 66 67 1,L 69 68 1,kN 70 69,kBi 71 70 0 .gtr] (Y 71 (Z (K.wk (K.dops [(0,1,J 73 13 2),(1,0,M 74 16),(2,0,M 75 17),(3,1,kX 76 74 75 1),(4,1,L 77 76 1),(5,1,kXi 78 77 3 0),(6,1,J 79 78 3),(7,1,kC 80 13 [(kt 73),(kt 79)]),(8,0,M 72 80),(9,0,kE 81 72 0),(10,0,kE 82 72 1),(11,0,kE 83 72 2),(12,302,⟨none,.alr (some 19) 2 kz2⟩),(13,303,⟨none,.alr (some 20) 3 kz2⟩),(14,0,S 19 81 5),(15,0,S 20 82 5),(16,0,M 21 83)])) (G [M 84 21] (Y 84 (K.ops [J 85 13 2,J 86 19 5,M 87 2,kC 88 14 [(kt 85),(kt 86),(kt 87)],S 18 88 3]) ks))) ks)) (K.wk zHv)))) (K.wk (K.ops [M 62 17,kBi 63 62 1 .add,M 17 63]))))))) (G [kC 163 19 [],M 12 163] kr))
def zPZ:K:=G [kMb 12 false] (G [M 32 0,M 33 3,kC 34 10 [(kt 32),(kt 33)],kZ 13 [kl,kl],S 13 34 2] (G [J 35 13 2,M 36 1,kC 37 11 [(kt 35),(kt 36),(kc 5)],M 14 37] (Z (K.dops [(1,0,M 39 14),(3,1,D 41 13 1),(4,1,L 42 41 1),(5,0,M 43 4),(6,1,D 44 13 1),(7,1,L 45 44 1),(8,1,kN 46 45),(0,0,kd 38 31 3 0 [] []),(2,0,kP 40 31 3 24 38 39),(9,1,kC 47 12 [(kt 43),(kt 46)]),(10,1,kX 48 42 47 31),(11,1,D 49 48 0),(12,1,J 50 49 3),(13,0,kd 51 31 3 1 [ki,ki,ki] [(0,3,(kt 50))]),(14,0,kP 52 31 3 24 40 51),(15,0,M 15 52)]) (Z (K.wk (K.ops [M 53 14,M 54 15,kb 55 [ki,ki,ki] [(0,1,(kc 7))],kd 56 31 3 1 [ki,ki,ki] [(0,3,(kt 55))],kd 57 28 1 4 [kl,kl,kl,kl] [(0,1,(kt 53)),(1,1,(kt 54)),(2,1,(.const kl)),(3,1,(kt 56))],M 16 57])) (K.wk zHu)))))
def zYY:Nat->Option wD:=fun|3=>some [(1,0),(3,1),(4,1),(5,0),(6,1),(7,1),(8,1),(0,0),(2,0),(9,1),(10,1),(11,1),(12,1),(13,0),(14,0),(15,0)] | 10=>k_ [1,0,0,1,1,1,1,1,0,0,0,0,302,303,0,0,0]|_=>none
theorem zXU:kx f3 zYY zPZ:=mz (by kernel_rfl)
def aE(k:wB)(LS:List wF)(i:Nat)(at_ fuel:Int):List (Nat×A):=[(2,.sl k.length (yC k)),(4,int at_),(5,int fuel),(13,.ptr 0 0),(16,.sl LS.length (jZ LS)),(17,int i)]
section
variable{p:Prg}{hs:wP}(hf:Fit p hs){k:wB}{LS:List wF}{i:Nat}{at_ fuel:Int}
include hf
theorem qD6(hi:i<LS.length)(hq:LS[i].length<=100){VS:wI}{j:Nat}(hj:j<VS.length)(hz:∀v∈VS,zZ v<=100000){FU:wB}(h3:FU.length=3)(hfu:∀f∈FU,-30000<=f/\f<=30000)(Q:Ex->wK)
 (hQ:∀E S,bW 0 (qS (aE k LS i at_ fuel++[(22,.sl VS.length (zR VS)),(23,.sl 3 (yC FU)),(24,int j)])) [.box (zN p)] E S->Q .norm E S) :
 wpK prog 0 zHs Q (qS (aE k LS i at_ fuel++[(22,.sl VS.length (zR VS)),(23,.sl 3 (yC FU)),(24,int j)])) [.box (zN p)]:=by
 have hP:=eP p;unfold zHs;simp only[aE,jB6,jBl]at hQ ⊢;simp[hP];refine qO (S:=Nat) (fun f=>aE k LS i at_ fuel++[(22,.sl VS.length (zR VS)),(23,.sl 3 (yC FU)),(24,int j),(25,int f)]) (fun _=>[.box (zN p)]) (fun f=>f<=3) (fun f=>3-f) 0 (by omega)
  (mw [0] 0 (by rfl) (by simp[hP,aE])) ?_
 intro f hf3;by_cases h:f<3
 .have hw:=jY f (by omega);have hI:(f:Int)<3:=by omega
  have hfl:f<FU.length:=by omega
  have hF:=hfu _ (jA0 hfl);have c1:=zOj hf LS[i] (by omega) VS[j] (hz _ (jA0 hj)) FU[f] (by omega) (by omega);have c2:=zMv hf LS[i] (by omega) VS[j] (hz _ (jA0 hj)) FU[f] (by omega) (by omega);have hcm:=gQ (gT p LS[i] VS[j] FU[f]).1 (gT p LS[i] VS[j] FU[f]).1;rw[nE]at hcm;have d1:=fY hi;have d2:=qT hj;have d3:=iG hfl;have n1:¬LS=[]:=fun e=>by rw[e]at hi;simp at hi
  have n2:¬VS=[]:=fun e=>by rw[e]at hj;simp at hj
  have b3:f+1<=3:=by omega
  generalize gT p LS[i] VS[j] FU[f]=R at *
  generalize LS[i]=q at *
  generalize VS[j]=v at *
  generalize FU[f]=g at *
  unfold cD at c1 c2;simp[hP,aE,hI,h,hi,hj,n1,n2,d1,d2,d3,b3]
  intros
  refine⟨hfl,?_⟩;refine j3 c1 (by simp[hP,zC]) (by simp[zC]) ?_;simp[zC,hI,h,hi,hj,n1,n2,d1,d2,d3,b3]
  intros
  refine⟨hfl,?_⟩;refine j3 c2 (by simp[hP,zC]) (by simp[zC]) ?_;simp[zC];refine mu hcm (by simp[zC]) ?_;simp;exact zS (f+1) h (by omega) (mw [0] 0 (by rfl) (by simp[hP,aE,hw]))
 .have hI:¬(f:Int)<3:=by omega
  simp[hP,aE,hI];exact hQ _ _ (mw [0] 0 (by rfl) (by simp[hP]))
theorem qD7(hi:i<LS.length)(hq:LS[i].length<=100){VS:wI}(h2:VS.length=2)(hz:∀v∈VS,zZ v<=100000){FU:wB}(h3:FU.length=3)(hfu:∀f∈FU,-30000<=f/\f<=30000)(Q:Ex->wK)
 (hQ:∀E S,bW 0 (qS (aE k LS i at_ fuel)) [.box (zN p)] E S->Q .norm E S) :
 wpK prog 0 zHt Q (qS (aE k LS i at_ fuel++[(22,.sl VS.length (zR VS)),(23,.sl 3 (yC FU))])) [.box (zN p)]:=by
 have hP:=eP p;unfold zHt;simp only[aE,jB6,jBl]at hQ ⊢;simp[hP];refine qO (S:=Nat) (fun j=>aE k LS i at_ fuel++[(22,.sl VS.length (zR VS)),(23,.sl 3 (yC FU)),(24,int j)]) (fun _=>[.box (zN p)]) (fun j=>j<=2) (fun j=>2-j) 0 (by omega)
  (mw [0] 0 (by rfl) (by simp[hP,aE])) ?_
 intro j hj;by_cases h:j<2
 .have hw:=jY j (by omega);have hI:(j:Int)<2:=by omega
  have hF:=qD6 hf (k:=k) (at_:=at_) (fuel:=fuel) hi hq (j:=j) (by omega) hz h3 hfu;simp[hP,aE,hI];refine⟨_,_,kf [0] 0 (by rfl) ?_ ?_,hF _ fun E S hw1=>?_⟩
  .simp[hP]
  .simp[aE]
  .simp;refine⟨_,_,hw1,?_⟩;simp[hP,aE];exact zS (j+1) h (by omega) (mw [0] 0 (by rfl) (by simp[hP,aE,hw]))
 .have hI:¬(j:Int)<2:=by omega
  simp[hP,aE,hI];exact hQ _ _ (mw [0] 0 (by rfl) (by simp[hP]))
theorem qD8(hi:i<LS.length)(hq:LS[i].length<=100)(hat:w64 at_=at_)(hfu:w64 fuel=fuel)(v:Val)(hv:zZ v<=256)(Q:Ex->wK)
 (hQ:∀E S,bW 0 (qS (aE k LS i at_ fuel)) [.box (zN p)] E S->Q .norm E S) :
 wpK prog 0 zHv Q (qS (aE k LS i at_ fuel++[(18,.ptr 1 0)])) [.box (zN p),.box (zC v)]:=by
 have hP:=eP p;have r1:=eU at_ 5 (by omega)
 have r2:=eU (IntKind.i64.wrap (at_.tdiv 5)) 6 (by omega);have r3:=eU fuel 100 (by omega);have r4:=eU fuel 60 (by omega);obtain⟨a0,a1⟩:=cC (k:=5) hat (by omega);obtain⟨b0,b1⟩:=cC (n:=IntKind.i64.wrap (at_.tdiv 5)) (k:=6) (by simp only[w64,IntKind.wrap_i64];omega) (by omega);obtain⟨c0,c1⟩:=cC (k:=100) hfu (by omega);obtain⟨d0,d1⟩:=cC (k:=60) hfu (by omega);have ft:fuel.tmod 3000<3000:=Int.tmod_lt_of_pos _ (by omega);have ft2 : -3000<fuel.tmod 3000:=Int.lt_tmod_of_pos _ (by omega);have hI3:∀x y z:Int,yC [x,y,z]=[int x,int y,int z]:=fun _ _ _=>rfl
 obtain⟨w,hw,rw'⟩:=zHj v (by omega) (yM at_ 5) (yM (IntKind.i64.wrap (at_.tdiv 5)) 6) (yM fuel 100) (by omega) (by omega) (by omega) (IntWalk.i64_in _ (by omega));generalize yM at_ 5=n1 at *
 generalize yM (IntKind.i64.wrap (at_.tdiv 5)) 6=n2 at *
 generalize yM fuel 100=n3 at *
 generalize hn4:yM fuel 60=n4 at *
 have hJ:=qD7 hf (k:=k) (at_:=at_) (fuel:=fuel) hi hq (VS:=[v,w]) rfl (by
  intro x hx;simp only[jA3,jAw,or_false]at hx;rcases hx with rfl|rfl<;>omega) (FU:=[2000,n4,fuel.tmod 3000]) rfl (by
  intro x hx;simp only[jA3,jAw,or_false]at hx;rcases hx with rfl|rfl|rfl<;>omega)
 unfold zHv;simp only[aE,jB6,jBl]at hQ ⊢;simp[hP,zC];refine qA r1 (by simp) (by simp) ?_;simp;refine qA r2 (by simp) (by simp) ?_;simp;refine qA r3 (by simp) (by simp) ?_;simp;refine qA rw' (by simp[zC]) (by simp[zC]) ?_;simp[zC];refine mu r4 (by simp) ?_;simp;refine⟨_,_,kf [0] 0 (by rfl) ?_ ?_,hJ _ hQ⟩
 .simp[hP]
 .simp[aE,zC,hI3]
end
theorem zPj{p:Prg}{hs:wP}(hf:Fit p hs){x:Id}{t:Typ×Typ}(h:yG p x=some t):TyOk hs 4 t.1:=by obtain⟨d,s,hd,hk,hs',rfl⟩:=zE8 h;exact(hf.slots d (aN hd).1).2.2.2.2 s (by rw[hs'];simp)
theorem qMQ(l m k:wB)(which at_ fuel:Int)(hl:∀x∈l,w64 x=x)(hm:∀x∈m,w64 x=x)(hk:∀x∈k,w64 x=x)(_:w64 which=which)(hat:w64 at_=at_)(hfu:w64 fuel=fuel) :
 my 3 [.sl l.length (yC l),.sl m.length (yC m),.sl k.length (yC k),int which,int at_,int fuel] [] (bl true) []:=by
 obtain⟨p,hs,hf,hd1,_,rP⟩:=zMr l hl which;have h8:=hf.len8;have hlv:=zMd;have rQ:=zZ9 p h8 m hm 5 (by omega) (by omega);obtain⟨q,hqe⟩:∃q,q=zMt p m 5:=⟨_,rfl⟩;have hql:q.length<=10:=by
  have hr:=jT (i:=1) hm (show (0:Int)<5 by omega);have:=(zC9 p m (atV m 1 5).toNat).1;rw[hqe];unfold zMt;split
  .simp
  .omega
 rw[<-hqe]at rQ;clear hqe;have ra:=eU at_ p.defs.length (by omega)
 obtain⟨a0,a1⟩:=cC (k:=(p.defs.length:Int)) hat (by omega);obtain⟨x,hx⟩:∃x:Nat,yM at_ p.defs.length=x:=⟨(yM at_ p.defs.length).toNat,by omega⟩
 rw[hx]at ra a1;have hxl:x<p.defs.length:=by omega
 have hxne:¬p.defs=[]:=fun e=>by rw[e]at hxl;simp at hxl
 have hxd:=yD hxl;generalize p.defs[x]=d at hxd;obtain⟨LS,hLS⟩:∃LS:List wF,LS=[q,q++[d.id],[],[⟨7,0,0⟩]]:=⟨_,rfl⟩;have hL4:LS.length=4:=by rw[hLS];rfl
 have hLq:∀r∈LS,r.length<=100:=by
  rw[hLS];intro r hr;simp only[jA3,jAw,or_false]at hr;rcases hr with rfl|rfl|rfl|rfl
  .omega
  .simp;omega
  .simp
  .simp
 have hP:=eP p;have key:wpK prog 0 zHu (fin [RS.slot 12] (rY 0 (bl true) [])) (qS [(2,.sl k.length (yC k)),(4,int at_),(5,int fuel),(13,.ptr 0 0),(16,.sl LS.length (jZ LS))]) [.box (zN p)]:=by
  unfold zHu;simp[hP];refine qO (S:=Nat) (fun i=>aE k LS i at_ fuel) (fun _=>[.box (zN p)]) (fun i=>i<=LS.length) (fun i=>LS.length-i) 0 (by omega)
   (mw [0] 0 (by rfl) (by simp[hP,aE])) ?_
  intro i hi;by_cases h:i<LS.length
  .have hw:=jY i (by omega);have hq:=hLq _ (jA0 h);have hV:=qD8 hf (k:=k) h hq hat hfu;have n1:¬LS=[]:=fun e=>by rw[e]at h;simp at h
   have d1:=fY h;have hv0:zC (.mk 0 at_ [])=[int 0,int at_,.sl 0 []]:=by simp[zC,zX,zQ,zH]
   by_cases hn:LS[i]=[]
   .have hl0:LS[i].length=0:=by rw[hn];rfl
    have hV0:=hV (.mk 0 at_ []) (by simp[zZ,qK]);rw[hn]at d1;simp[hP,aE,h,n1,d1]
    intros
    refine⟨_,_,kf [0,1] 0 (by rfl) ?_ ?_,hV0 _ fun E S hw1=>?_⟩
    .simp[hP,hv0]
    .simp[aE]
    .simp;refine⟨_,_,hw1,?_⟩;simp[hP,aE];exact zS (i+1) h (by omega) (mw [0] 0 (by rfl) (by simp[hP,aE,hw]))
   .have hpos:0<LS[i].length:=List.length_pos_iff.2 hn;have hle:=nU p (by omega) LS[i][0];have h3l:3<=LS[i].length*3:=by omega
    have hd0:List.take 3 (zV LS[i])=[int LS[i][0].a,int LS[i][0].b,int LS[i][0].c]:=by have:=yA hpos;rw[show (zV LS[i]).drop (0*3)=zV LS[i] from rfl]at this;rw[this];rfl
    cases hv:yG p LS[i][0]with
    |none =>
     have hV0:=hV (.mk 0 at_ []) (by simp[zZ,qK]);rw[hv]at hle;generalize LS[i][0]=y at *
     generalize LS[i]=L at *
     simp[hP,aE,h,n1,d1,hn,hpos]
     intros
     refine⟨_,_,yN 2,?_⟩;simp[List.replicate,h,n1,d1,hn,hpos,h3l,hd0];refine j3 hle (by simp[hP,zL]) (by simp[cP,zB]) ?_;simp[cP,zB];refine⟨_,_,kf [0,1] 0 (by rfl) ?_ ?_,hV0 _ fun E S hw1=>?_⟩
     .simp[hP,hv0]
     .simp[aE]
     .simp;refine⟨_,_,hw1,?_⟩;simp[hP,aE];exact zS (i+1) h (by omega) (mw [0] 0 (by rfl) (by simp[hP,aE,hw]))
    |some t =>
     have hty:=zPj hf hv;have rv:=zTo p (by omega) k hk t.1 (zOc hf hty (by omega) 10 (by omega)) (zOd hf hty (by omega) 5 (by omega));have vs:=zKN hk (zOc hf hty (by omega) 10 (by omega)) (zOd hf hty (by omega) 5 (by omega));have hV0:=hV (zAM p t.1 k) vs.1;rw[hv]at hle;generalize zAM p t.1 k=v at *
     generalize LS[i][0]=y at *
     generalize LS[i]=L at *
     simp[hP,aE,h,n1,d1,hn,hpos]
     intros
     refine⟨_,_,yN 2,?_⟩;simp[List.replicate,h,n1,d1,hn,hpos,h3l,hd0];refine j3 hle (by simp[hP,zL]) (by simp[cP,zB]) ?_;simp[cP,zB];refine mu rv (by simp[hP,zB,zC]) ?_;simp[zC];refine⟨_,_,kf [0,1] 0 (by rfl) ?_ ?_,hV0 _ fun E S hw1=>?_⟩
     .simp[hP,zC]
     .simp[aE]
     .simp;refine⟨_,_,hw1,?_⟩;simp[hP,aE];exact zS (i+1) h (by omega) (mw [0] 0 (by rfl) (by simp[hP,aE,hw]))
  .simp[hP,aE,h]
   intros
   refine mu hlv (by simp) ?_;simp;exact zA 0 (by simp)
 refine zM func3 rfl zXU (rs:=[.slot 12]) (by kernel_rfl) ?_;unfold zPZ;have hLc:jZ LS=[.sl q.length (zV q),.sl (q.length+1) (zV q++zL d.id),.sl 0 [],.sl 1 [int 7,int 0,int 0]]:=by rw[hLS];simp[jZ,yH,zV,zL]
 rw[hL4,hLc]at key;clear hLS hLq hLc;by_cases hq0:q=[]
 .subst hq0;simp;refine mu rP (by simp[hP]) ?_;simp[hP];refine mu rQ (by simp[hP]) ?_;simp;refine j3 ra (by simp) (by simp) ?_;simp[hxl,hxne,hxd,zK]
  intros
  refine⟨by simp[maxLen],?_⟩;refine⟨_,_,zP (l:=[(2,.sl k.length (yC k)),(4,int at_),(5,int fuel),(13,.ptr 0 0),(14,.sl 0 []),(15,.sl 1 (zL d.id))]) (U':=[.box (zN p)]) [0] 1 (by simp) (by decide) (by simp[hP]) (by simp[zL]),?_⟩;simp;refine⟨_,_,kf [0] 0 (by rfl) ?_ ?_,key⟩
  .simp[hP]
  .simp
 .simp;refine mu rP (by simp[hP]) ?_;simp[hP];refine mu rQ (by simp[hP]) ?_;simp[hq0];refine⟨⟨by simp[maxLen];omega,by omega⟩,?_⟩;refine j3 ra (by simp) (by simp) ?_;simp[hxl,hxne,hxd,zK]
  intros
  refine⟨⟨by simp[maxLen];omega,by omega⟩,?_⟩;refine⟨_,_,zP (l:=[(2,.sl k.length (yC k)),(4,int at_),(5,int fuel),(13,.ptr 0 0),(14,.sl q.length (zV q)),(15,.sl (q.length+1) (zV q++zL d.id))]) (U':=[.box (zN p)]) [0] 1 (by simp) (by decide) (by simp[hP]) (by simp[zL]),?_⟩;simp;refine⟨_,_,kf [0] 0 (by rfl) ?_ ?_,key⟩
  .simp[hP]
  .simp
end Go.Proofs.YtdnelmeboihpkaaGreatDoor

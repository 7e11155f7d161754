/- The values of a domain are small. -/
import Derived.Test.YtdnelmeboihpkaaGreatDoorX22
set_option linter.unusedVariables false
set_option maxHeartbeats 8000000
set_option maxRecDepth 100000
set_option linter.unusedSimpArgs false
open Go.Proofs.Tryz
namespace Go.Proofs.YtdnelmeboihpkaaGreatDoor
open Go.Abs
inductive OneOf:List Val->List (List Val)->Prop
 |nil:OneOf [] []
 |cons {v:Val} {x:List Val} {t:List Val} {l:List (List Val)} (h:v∈x) (ht:OneOf t l):OneOf (v::t) (x::l)
theorem zIB:∀(l acc:List wH) (t:wH),t∈l.foldl fX acc->∃h∈acc,∃s,t=h++s/\OneOf s l
 |[],acc,t,ht=>⟨t,ht,[],by simp,.nil⟩
 |a::l,acc,t,ht=>by obtain⟨h,hh,s,rfl,hs⟩:=zIB l (fX acc a) t ht;simp only[fX,List.mem_flatMap,jAk]at hh;obtain⟨g,hg,x,hx,rfl⟩:=hh;exact⟨g,hg,x::s,by simp,.cons hx hs⟩
theorem zJ9{l:List wH}{t:wH}(h:t∈aJ l):OneOf t l:=by obtain⟨g,hg,s,rfl,hs⟩:=zIB l [[]] t h;simp at hg;subst hg;simpa using hs
inductive BndB(N:Nat):List Sz->List (List Val)->Prop
 |nil:BndB N [] []
 |cons {k:Sz} {x:List Val} {z:List Sz} {l:List (List Val)} (h:∀v∈x,(qN v:Int)<=k.b/\bI v<=N) (h0:0<=k.b) (hz:BndB N z l):BndB N (k::z) (x::l)
def zFu:List Sz->Int
 |[]=>0
 |k::z=>k.b+zFu z
theorem zHt{N:Nat}:∀{z:List Sz} {l:List wH} {t:wH},BndB N z l->OneOf t l->(jT t:Int)<=zFu z/\aC t<=N
 |_,_,_,.nil,.nil=>by simp[jT,aC,zFu]
 |_,_,_,.cons h _ hz,.cons hv ht=>by have h1:=zHt hz ht;have h2:=h _ hv;simp only[jT,aC,zFu];omega
theorem zRL:∀(z:List Sz) (a b:Int),(oU a b z).e=0->(oU a b z).b=b+zFu z
 |[],a,b,_=>by simp[oU,zFu]
 |k::z,a,b,h=>by
  simp only[oU]at h⊢;split at h
  .simp at h
  .rename_i hn;rw[if_neg hn,zRL z _ _ h];simp only[zFu];omega
theorem zMv:∀(z:List Sz) (a b:Int),b<=(iV a b z).b/\∀k∈z,1+k.b<=(iV a b z).b
 |[],a,b=>by simp[iV]
 |k::z,a,b=>by
  have:=zMv z (a+k.a) (max b (1+k.b));simp only[iV];refine⟨by omega,fun x hx=>?_⟩;rcases jA1.1 hx with rfl|hx
  .omega
  .exact this.2 x hx
theorem zF3{N:Nat}:∀{z:List Sz} {l:List wH} (i:Int),BndB N z l->∀v∈j8 i l,∃k∈z,(qN v:Int)<=1+k.b/\bI v<=N+1
 |_,_,i,.nil,v,h=>by simp[j8]at h
 |_,_,i,.cons (k:=k) h h0 hz,v,hv=>by
  simp only[j8,jAa,jAk]at hv;rcases hv with ⟨x,hx,rfl⟩|hv
  .have:=h x hx;refine⟨k,by simp,?_⟩;have e1:qN (.mk 3 i [x])=1+jT [x]:=iP _;have e2:bI (.mk 3 i [x])=aC [x]+1:=gQ _;have e3:jT [x]=qN x+0:=by simp only[jT]
   have e4:aC [x]=max (bI x) 0:=by simp only[aC]
   rw[e1,e2,e3,e4];omega
  .obtain⟨k',hk',h'⟩:=zF3 (i+1) hz v hv;exact⟨k',by simp[hk'],h'⟩
theorem zMt{N:Nat}{k:Sz}{x:wH}(h:∀v∈x,(qN v:Int)<=k.b/\bI v<=N)(h0:0<=k.b):∀j,BndB N (List.replicate j k) (List.replicate j x)/\zFu (List.replicate j k)=j*k.b
 | 0=>⟨.nil,by simp[zFu]⟩
 |j+1=>by
  have:=zMt h h0 j;refine⟨.cons h h0 this.1,?_⟩;simp only[List.replicate_succ,zFu,this.2];have:((j+1:Nat):Int)*k.b=j*k.b+k.b:=by rw[jDa,Int.add_mul];simp
  omega
theorem zM8{k:Sz}(h:(fU k).e=0)(ha:(fU k).a≠0):(fU k).b=k.b:=by
 unfold fU at *
 split at h
 .rename_i h1;simp at h;exact(h1 h).elim
 .split at h
  .simp at h
  .rename_i h1 h2;rw[if_neg h1,if_neg h2]at ha ⊢;simp only at ha ⊢;rw[if_neg ha]
theorem zFz{p:Prg}{m:Int}{n:Nat}(hm:0<=m/\m<=64)(ih:∀t,(j7 p m n t).e=0->∀v∈dJ p m n t,(qN v:Int)<=(j7 p m n t).b/\bI v<=n):∀l:List Slt,(∀s∈l,(j7 p m n s.typ).e=0) ->
 BndB n (l.map fun s=>j7 p m n s.typ) (l.map fun s=>dJ p m n s.typ)
 |[],_=>.nil
 |s::l,h=>.cons (ih _ (h s (by simp))) ((eF p m hm n s.typ) (h s (by simp))).2.2.1 (zFz hm ih l fun x hx=>h x (by simp[hx]))
theorem zDi(p:Prg)(m:Int)(hm:0<=m/\m<=64):∀(n:Nat) (t:Typ),(j7 p m n t).e=0->∀v∈dJ p m n t,(qN v:Int)<=(j7 p m n t).b/\bI v<=n
 | 0,t,_,v,hv=>by simp[dJ]at hv
 |n+1,t,h,v,hv=>by
  have ih:=zDi p m hm n;have hlen:=nL p m hm.1 (n+1) t h;have hpos:0<(dJ p m (n+1) t).length:=List.length_pos_of_mem hv;have ha:(j7 p m (n+1) t).a≠0:=by omega
  clear hlen hpos;unfold j7 at h ha ⊢;unfold dJ at hv;by_cases hvt:validT p t=false
  .rw[if_pos hvt]at h;simp at h
  .rw[if_neg hvt]at h ha ⊢;by_cases h0:t.k=0
   .rw[if_pos h0]at hv ⊢;simp only[mB,jAk]at hv;obtain⟨i,_,rfl⟩:=hv;simp[iP,gQ,Val.kids,jT,aC]
   .rw[if_neg h0]at h ha hv ⊢;by_cases h1:t.k=1
    .rw[if_pos h1]at hv ⊢;simp only[jA1,jAu,or_false]at hv;rcases hv with rfl|rfl<;>simp[iP,gQ,Val.kids,jT,aC]
    .rw[if_neg h1]at h ha hv ⊢;by_cases h2:t.k=2
     .rw[if_pos h2]at h ha hv ⊢;rw[zM8 h ha];have hfe:=u9 h;have ih2:=ih (t.kids.headD Typ.zero);have hok:=eF p m hm n (t.kids.headD Typ.zero);generalize j7 p m n (t.kids.headD Typ.zero)=kz at *
      generalize dJ p m n (t.kids.headD Typ.zero)=X at *
      have hle:=hfe.1;have hke:kz.e=0:=by
       unfold eA at hle;split at hle
       .rename_i hh;simpa using hle
       .rename_i hh;simpa using hh
      obtain⟨_,_,b0,b1⟩:=hok hke;simp only[zHl,List.mem_flatMap,jAk,jBr]at hv;obtain⟨j,hj,tt,htt,rfl⟩:=hv;have hr:=zMt (N:=n) (fun v hv=>ih2 hke v hv) b0 j;have ho:=zHt hr.1 (zJ9 htt);rw[hr.2]at ho;have hj2:j=0\/(j=1/\1<=m)\/(j=2/\2<=m):=by split at hj<;>omega
      simp only[iP,gQ,Val.kids];unfold eA;rw[if_neg (by simp[hke])];refine⟨?_,by omega⟩;rcases hj2 with rfl|⟨rfl,hj2⟩|⟨rfl,hj2⟩
      .split
       .simp only;omega
       .split<;>simp only<;>omega
      .rw[if_neg (by omega)];split<;>simp only<;>omega
      .rw[if_neg (by omega),if_neg (by omega)];simp only;omega
     .rw[if_neg h2]at h ha hv ⊢;rw[zM8 h ha];have e1:=(u9 h).1;have e3:rO ((dfn p t.id).slots.map fun s=>j7 p m n s.typ)=0:=by
       by_cases hz:rO ((dfn p t.id).slots.map fun s=>j7 p m n s.typ)=0
       .exact hz
       .exact absurd e1 (by simp[bA,hz])
      have hb:=zFz hm ih (dfn p t.id).slots (fun s hs=>i6 e3 _ (jAk.2 ⟨s,hs,rfl⟩));have hvt2:validT p t=true:=by simpa using hvt
      have e5:=zAm hvt2 h0 h1 h2;unfold sL at hv;rcases e5 with e5|e5
      .rw[if_pos e5]at hv;have ee:bA (decide ((dfn p t.id).kind=0)) ((dfn p t.id).slots.map fun s=>j7 p m n s.typ)=oU 1 1 ((dfn p t.id).slots.map fun s=>j7 p m n s.typ):=by simp[bA,e3,e5]
       rw[ee]at e1 ⊢;rw[zRL _ _ _ e1];simp only[pO,jAk]at hv;obtain⟨tt,htt,rfl⟩:=hv;have ho:=zHt hb (zJ9 htt);simp only[iP,gQ,Val.kids];omega
      .rw[if_neg (by omega),if_pos e5]at hv;have ee:bA (decide ((dfn p t.id).kind=0)) ((dfn p t.id).slots.map fun s=>j7 p m n s.typ)=iV 0 1 ((dfn p t.id).slots.map fun s=>j7 p m n s.typ):=by simp[bA,e3,e5]
       rw[ee];obtain⟨k,hk,h3,h4⟩:=zF3 0 hb v hv;have:=(zMv ((dfn p t.id).slots.map fun s=>j7 p m n s.typ) 0 1).2 k hk;omega
theorem zHI(p:Prg)(t:Typ)(m:Int):∀v∈(bB p t m).1,qN v<=256/\bI v<=24:=by
 intro v hv;unfold bB at hv;split at hv
 .simp at hv
 .rename_i hm;split at hv
  .simp at hv
  .rename_i he;have he':(size p m t).e=0:=by simpa using he
   simp only at hv;have hv2:v∈dJ p m 24 t:=(List.mergeSort_perm _ _).mem_iff.1 hv;have:=zDi p m (by omega) 24 t he' v hv2;have hb:=(eF p m (by omega) 24 t he').2.2.2;omega
def iD(n:Int):Id:=⟨0,1,n⟩
def exF(at_ place rec slot:Int):Exp:=.mk (iD at_) 8 place (iD rec) .zero [.mk (iD (at_+1)) 2 0 (iD slot) .zero [] []] []
def exS(i:Int)(nm:ByteArray)(pl:Int):Slt:=⟨iD i,nm,.zero,0,pl⟩
def zQ5:Exp:=.mk (iD 20) 7 0 (iD 11) .zero [exF 21 0 10 4,.mk (iD 23) 0 0 .zero .zero [] []] []
def zQ9:Exp:=.mk (iD 24) 4 0 .zero .zero [exF 25 0 11 5,exF 27 1 11 5] []
def zQ8:Exp:=.mk (iD 29) 4 2 .zero .zero [exF 30 0 10 6,exF 16 0 10 6] []
def zFi(i:Int)(nm:ByteArray)(s:Int)(a b:Int)(e:Exp):Dfn:=⟨iD i,5,iD 0,nm,[⟨iD s,⟨#[97]⟩,yB (iD a),0,0⟩],yB (iD b),e,0,[]⟩
def m8(i:Int)(nm:ByteArray)(ss:List Slt):Dfn:=⟨iD i,0,iD 0,nm,ss,.zero,.zero,0,[]⟩
def aT:Prg:=⟨[⟨iD 0,⟨#[109]⟩,[],[iD 1,iD 2,iD 3,iD 10,iD 11,iD 12]⟩],
 [zFi 1 ⟨#[112]⟩ 4 10 11 zQ5,zFi 2 ⟨#[113]⟩ 5 11 12 (.mk (iD 18) 7 0 (iD 12) .zero [zQ9] []),zFi 3 ⟨#[114]⟩ 6 10 12 (.mk (iD 19) 7 0 (iD 12) .zero [zQ8] []),
  m8 10 ⟨#[65]⟩ [exS 7 ⟨#[120]⟩ 0],m8 11 ⟨#[66]⟩ [exS 8 ⟨#[120]⟩ 0,exS 9 ⟨#[121]⟩ 1],m8 12 ⟨#[67]⟩ [exS 13 ⟨#[120]⟩ 0]]⟩
def s4(n:Int):Val:=.mk 2 0 [.mk 0 n []]
theorem zGT{rec slot:Int}{at_:Int}{j:Nat}(d:Dfn)(hd:qI aT.defs (iD rec)=some d)(hk:d.kind=0)(hj:j<d.slots.length)(ht:d.slots[j].typ=q9):WE aT [⟨iD slot,0,yB (iD rec)⟩] (exF at_ j rec slot) q9:=by have:=WE.field (p:=aT) [⟨iD slot,0,yB (iD rec)⟩] (iD at_) (iD rec) .zero (.mk (iD (at_+1)) 2 0 (iD slot) .zero [] []) [] d j hd hk hj (.var _ _ _ _ _ _ _ (by simp[dF]));rw[ht]at this;exact this
def zQ6:Dfn:=m8 10 ⟨#[65]⟩ [exS 7 ⟨#[120]⟩ 0]
def zM6:Dfn:=m8 11 ⟨#[66]⟩ [exS 8 ⟨#[120]⟩ 0,exS 9 ⟨#[121]⟩ 1]
def zQ7:Dfn:=m8 12 ⟨#[67]⟩ [exS 13 ⟨#[120]⟩ 0]
theorem qDW:qI aT.defs (iD 10)=some zQ6:=by rfl
theorem zX9:qI aT.defs (iD 11)=some zM6:=by rfl
theorem qDX:qI aT.defs (iD 12)=some zQ7:=by rfl
theorem zKI{k:Nat}{n:Int}(h:k<(aT.defs.map Dfn.hd).length)(hid:(aT.defs.map Dfn.hd)[k].id=iD n)(h1:∀(j:Nat)(hj:j<k),(aT.defs.map Dfn.hd)[j].id≠(aT.defs.map Dfn.hd)[k].id)
 (h2:(aT.defs.map Dfn.hd)[k].kind=0)(h3:(aT.defs.map Dfn.hd)[k].slots.length<=6)(h4:∀s∈(aT.defs.map Dfn.hd)[k].slots,s.typ=q9):TyOk (aT.defs.map Dfn.hd) 4 (yB (iD n)):=by
 rw[<-hid];exact .dfn 3 k h h1 (.inl h2) h3 fun s hs=>by rw[h4 s hs];exact .int _
theorem zA9:Fit aT (aT.defs.map Dfn.hd):=by
 have t10:TyOk (aT.defs.map Dfn.hd) 4 (yB (iD 10)):=zKI (k:=3) (by decide) rfl (by decide) rfl (by decide) (by intro s hs;simp[aT,m8,zFi,exS,Dfn.hd]at hs;subst hs;rfl);have t11:TyOk (aT.defs.map Dfn.hd) 4 (yB (iD 11)):=zKI (k:=4) (by decide) rfl (by decide) rfl (by decide) (by intro s hs;simp[aT,m8,zFi,exS,Dfn.hd]at hs;rcases hs with rfl|rfl<;>rfl);have t12:TyOk (aT.defs.map Dfn.hd) 4 (yB (iD 12)):=zKI (k:=5) (by decide) rfl (by decide) rfl (by decide) (by intro s hs;simp[aT,m8,zFi,exS,Dfn.hd]at hs;subst hs;rfl);refine⟨rfl,by decide,by decide,?_,by decide,?_⟩
 .intro d hd;simp only[aT,jA1,jAu,or_false]at hd;rcases hd with rfl|rfl|rfl|rfl|rfl|rfl
  .exact⟨by decide,by decide,by decide,by decide,fun s hs=>by simp[zFi]at hs;subst hs;exact t10⟩
  .exact⟨by decide,by decide,by decide,by decide,fun s hs=>by simp[zFi]at hs;subst hs;exact t11⟩
  .exact⟨by decide,by decide,by decide,by decide,fun s hs=>by simp[zFi]at hs;subst hs;exact t10⟩
  .exact⟨by decide,by decide,by decide,by decide,fun s hs=>by simp[m8,exS]at hs;subst hs;exact .int _⟩
  .exact⟨by decide,by decide,by decide,by decide,fun s hs=>by simp[m8,exS]at hs;rcases hs with rfl|rfl<;>exact .int _⟩
  .exact⟨by decide,by decide,by decide,by decide,fun s hs=>by simp[m8,exS]at hs;subst hs;exact .int _⟩
 .intro r d hd hb;have hm:=(y6 hd).1;simp only[aT,jA1,jAu,or_false]at hm;rcases hm with rfl|rfl|rfl|rfl|rfl|rfl
  .show WE aT [⟨iD 4,0,yB (iD 10)⟩] zQ5 (yB (iD 11));refine .record _ _ _ _ _ _ _ (by decide) zM6 zX9 rfl rfl fun j hj=>?_
   have:j=0\/j=1:=by simp at hj;omega
   rcases this with rfl|rfl
   .exact zGT (j:=0) zQ6 qDW rfl (by decide) rfl
   .exact .int _ _ _ _ _ _ (by decide) (by decide)
  .show WE aT [⟨iD 5,0,yB (iD 11)⟩] (.mk (iD 18) 7 0 (iD 12) .zero [zQ9] []) (yB (iD 12));refine .record _ _ _ _ _ _ _ (by decide) zQ7 qDX rfl rfl fun j hj=>?_
   have:j=0:=by simp at hj;omega
   subst this;refine .op _ _ _ _ _ _ _ (by decide) [q9,q9] q9 (.arith _ (by decide) (by decide)) rfl fun j hj=>?_
   have:j=0\/j=1:=by simp at hj;omega
   rcases this with rfl|rfl
   .exact zGT (j:=0) zM6 zX9 rfl (by decide) rfl
   .exact zGT (j:=1) zM6 zX9 rfl (by decide) rfl
  .show WE aT [⟨iD 6,0,yB (iD 10)⟩] (.mk (iD 19) 7 0 (iD 12) .zero [zQ8] []) (yB (iD 12));refine .record _ _ _ _ _ _ _ (by decide) zQ7 qDX rfl rfl fun j hj=>?_
   have:j=0:=by simp at hj;omega
   subst this;refine .op _ _ _ _ _ _ _ (by decide) [q9,q9] q9 (.arith _ (by decide) (by decide)) rfl fun j hj=>?_
   have:j=0\/j=1:=by simp at hj;omega
   rcases this with rfl|rfl
   all_goals
    exact zGT (j:=0) zQ6 qDW rfl (by decide) rfl
  all_goals exact absurd hb (by decide)
theorem nQ(n:Int):my 50 [int n] [] (.agg [int 0,int 1,int n]) []:=by
 refine mq [] [.cell 2 3 true] func50 (by kernel_rfl) ?_
 (conv in kq _ _=>cbv)
 simp;exact zA 0 (by simp)
theorem zZn(n:Int):my 94 [int n] [] (.agg [int 3,int 0,int 1,int n,.sl 0 []]) []:=by
 refine mq [] [.cell 2 5 true] func94 (by kernel_rfl) ?_
 (conv in kq _ _=>cbv)
 simp;refine mu (nQ n) (by simp) ?_;simp;exact zA 0 (by simp)
theorem zZl(a p r s:Int)(h:IntKind.i64.wrap (a+1)=a+1):my 93 [int a,int p,int r,int s] [] (.agg (zH (exF a p r s))) []:=by
 refine mq [] [.cell 8 15 true] func93 (by kernel_rfl) ?_
 (conv in kq _ _=>cbv)
 simp;refine mu (nQ a) (by simp) ?_;simp;refine mu (nQ r) (by simp) ?_;simp[h];refine mu (nQ (a+1)) (by simp) ?_;simp;refine mu (nQ s) (by simp) ?_;simp;exact zA 0 (by simp[exF,zH,iD,Typ.zero,Id.zero,zM])
def zGU(l:wB):List Slt:=l.mapIdx fun i s=>exS s (([⟨#[120]⟩,⟨#[121]⟩]:List ByteArray).getD i ⟨#[]⟩) i
theorem zNO(l:wB)(s:Int):zGU (l++[s])=zGU l++[exS s (([⟨#[120]⟩,⟨#[121]⟩]:List ByteArray).getD l.length ⟨#[]⟩) l.length]:=by simp[zGU,List.mapIdx_append]
theorem zZm(n:Int)(nm:ByteArray)(l:wB)(hl:l.length<=2):my 95 [int n,.lit (.string nm),.sl l.length (jQ l)] [] (.agg (zI (m8 n nm (zGU l)))) []:=by
 refine mq [] [.cell 6 31 true] func95 (by kernel_rfl) ?_
 (conv in kq _ _=>cbv)
 simp;refine mu (nQ n) (by simp) ?_;simp;refine mu (nQ 0) (by simp) ?_;simp;refine qM (S:=Nat) (fun i=>[(2,.sl l.length (jQ l)),(6,.ptr 0 0),(7,.ptr 1 0),(8,int i)]) (fun i=>[.box (kz0.map qZ),.box ((zI (m8 n nm [])).set 8 (.row 2 i)),.row false 85 11 i (jF (zGU (l.take i)))])
  (fun i=>i<=l.length) (fun i=>l.length-i) 0 (by omega)
  ((yU (l:=1) (o:=8) rfl rfl 85 11).trans (mw [0,1,2] 0 (by rfl) (by simp[zI,m8,iD,Typ.zero,Id.zero,Exp.zero,zGU]))) ?_
 intro i hi;by_cases h:i<l.length
 .have hne:¬l=[]:=fun e=>by rw[e]at h;simp at h
  have hcd:=eI h;have hsn:=zNO (l.take i) l[i];rw[<-jA8 h,jAq,jAt hi]at hsn;have r:=nQ l[i];generalize l[i]=s at *
  have hI0:(0:Int)<l.length:=by omega
  rcases (by omega:i=0\/i=1)with rfl|rfl
  .simp[zI,m8,iD,Typ.zero,Id.zero,Exp.zero,h,hne,hcd]
   intros
   refine zZ r (by simp) (by simp) ?_;simp;refine⟨by simp[maxLen],?_⟩;exact zN 1 h (by omega) (mw [0,1,2] 0 (by rfl) (by simp[hsn,oO,lM,j4,exS,zI,m8,iD,Typ.zero,Id.zero,Exp.zero,show IntKind.i64.wrap 1=1 by decide]))
  .have hI:(1:Int)<l.length:=by omega
   simp[zI,m8,iD,Typ.zero,Id.zero,Exp.zero,h,hne,hcd,hI]
   intros
   refine zZ r (by simp) (by simp) ?_;simp;refine⟨by simp[maxLen],?_⟩;exact zN 2 h (by omega) (mw [0,1,2] 0 (by rfl) (by simp[hsn,oO,lM,j4,exS,zI,m8,iD,Typ.zero,Id.zero,Exp.zero,show IntKind.i64.wrap 2=2 by decide]))
 .have hie:i=l.length:=by omega
  subst hie;rw[jAr];simp[zI,m8,iD,Typ.zero,Id.zero,Exp.zero]
  intros
  exact zA 1 (by simp[zI,m8,iD,Typ.zero,Id.zero,Exp.zero,zGU])
section
variable{U:St}{d:wC}{env:Env}{K':wJ}{Qp:Value->wJ}{KD:Env->Prop}
theorem xI0{n:Int}(hq:K' (env.put d (.agg [int 0,int 1,int n])) U):aH prog 50 [int n] U (Go.Abs.outK d env K' Qp):=mu (nQ n) (by simp) hq
theorem xI1{n:Int}(hq:KD (env.put d (.agg [int 0,int 1,int n]))):sO prog U d KD 50 [int n] env:=zZ (nQ n) (by simp) (by simp) hq
theorem xT1{n:Int}(hq:KD (env.put d (.agg [int 3,int 0,int 1,int n,.sl 0 []]))):sO prog U d KD 94 [int n] env:=zZ (zZn n) (by simp) (by simp) hq
theorem xF0{a p r s:Int}(h:IntKind.i64.wrap (a+1)=a+1)(hq:K' (env.put d (.agg (zH (exF a p r s)))) U):aH prog 93 [int a,int p,int r,int s] U (Go.Abs.outK d env K' Qp):=mu (zZl a p r s h) (by simp) hq
theorem xR1{n:Int}{nm:ByteArray}{l:wB}(hl:l.length<=2){x:A}(hx:cZ [] [int n,.lit (.string nm),x] [int n,.lit (.string nm),.sl l.length (jQ l)])(hq:KD (env.put d (.agg (zI (m8 n nm (zGU l)))))):sO prog U d KD 95 [int n,.lit (.string nm),x] env:=zZ (zZm n nm l hl) hx (by simp) hq
end
theorem zTj:my 49 [] [] (.agg (zT aT)) []:=by
 refine mq [] [.cell 0 2 true] func49 (by kernel_rfl) ?_
 (conv in kq _ _=>cbv)
 repeat (first|refine xI0 ?_|refine xI1 ?_|refine xT1 ?_|refine xF0 (by decide) ?_|simp[zH]|refine⟨by simp[maxLen],?_⟩)
 refine xR1 (l:=[7]) (by decide) (by simp) ?_
 repeat (first|refine xI0 ?_|refine xI1 ?_|refine xT1 ?_|refine xF0 (by decide) ?_|simp[zH]|refine⟨by simp[maxLen],?_⟩)
 refine xR1 (l:=[8,9]) (by decide) (by simp) ?_
 repeat (first|refine xI0 ?_|refine xI1 ?_|refine xT1 ?_|refine xF0 (by decide) ?_|simp[zH]|refine⟨by simp[maxLen],?_⟩)
 refine xR1 (l:=[13]) (by decide) (by simp) ?_
 repeat (first|refine xI0 ?_|refine xI1 ?_|refine xT1 ?_|refine xF0 (by decide) ?_|simp[zH]|refine⟨by simp[maxLen],?_⟩)
 exact zA 1 (by simp[zT,aT,zFi,m8,zGU,exS,exF,zQ5,zQ9,zQ8,lM,zM,j4,jG,yI,zH,zI,qO,m7,zG,zP,tH,z7,iD,yB,q9,Typ.zero,Id.zero,Exp.zero])
theorem iJ(n:Int):my 50 [int n] [] (.agg (zG (iD n))) []:=nQ n
theorem zEj(n:Int):my 51 [int n] [] (.agg (zL (s4 n))) []:=by
 refine mq [] [.cell 2 3 true] func51 (by kernel_rfl) ?_
 (conv in kq _ _=>cbv)
 simp;exact zA 0 (by simp[zL,s4,Val.k,Val.n,Val.kids])
theorem zH5(a b:List wF)(ha:a.length<=1000):my 22 [.sl a.length (jM a),.sl b.length (jM b)] [] (bl (decide (a=b))) []:=by
 refine mq [] [.slot 4] func22 (by kernel_rfl) ?_
 (conv in kq _ _=>cbv)
 by_cases hab:a.length=b.length
 .have hab':(a.length:Int)=b.length:=by omega
  simp[hab];intro hlb;refine qM (S:=Nat) (fun i=>[(0,.sl a.length (jM a)),(1,.sl b.length (jM b)),(5,int i)]) (fun s=>[]) (fun i=>i<=a.length/\a.take i=b.take i) (fun i=>a.length-i) 0 (by simp)
   (mw [] 0 (by rfl) (by simp[hab])) ?_
  rintro i ⟨hi,hn⟩;by_cases h:i<a.length
  .have hb:i<b.length:=by omega
   have hs:=zOV a[i] b[i];have hpa:=iB h;have hpb:=iB hb;have hane:¬a=[]:=fun e=>by rw[e]at h;simp at h
   have hbne:¬b=[]:=fun e=>by rw[e]at hb;simp at hb
   have hw:=z6 h (show a.length<=maxLen by simp[maxLen];omega);simp[h,hb,hpa,hpb,hane,hbne];intro _;refine zZ hs (by simp) (by simp) ?_;by_cases hx:a[i]=b[i]
   .simp[hx];refine zN (i+1) ⟨h,?_⟩ (by omega) (mw [] 0 (by rfl) (by simp[hw]));rw[jA8 h,jA8 hb,hn,hx]
   .have hne:a≠b:=fun e=>hx (by subst e;rfl)
    simp[hx];exact zA 0 (by simp[hne])
  .have:i=a.length:=by omega
   subst this;simp;have:a=b:=by rw[jAr,hab,jAr]at hn;exact hn
   exact fun _=>zA 0 (by simp[this])
 .have hne:a≠b:=fun e=>hab (by rw[e])
  have hab':¬(a.length:Int)=b.length:=by omega
  simp[hab'];exact fun _ _=>zA 0 (by simp[hne])
theorem zL4(n:Int):∀(l:wB) (i:Nat),i<=l.length->(∀j (h:j<l.length),j<i->l[j]<n)->(∀h:i<l.length,¬l[i]<n)->zEx l n=if l[i]?=some n then l else l.take i++n::l.drop i
 |[],i,hi,h1,h2=>by
  have:i=0:=by simpa using hi
  subst this;simp[zEx]
 |x::l,0,hi,h1,h2=>by have:=h2 (by simp);simp only[jCl]at this;simp[zEx,this]
 |x::l,i+1,hi,h1,h2=>by have h0:=h1 0 (by simp) (by omega);simp only[jCl]at h0;have ih:=zL4 n l i (by simpa using hi) (fun j h hj=>by have:=h1 (j+1) (by simpa using h) (by omega);simpa using this) (fun h=>by have:=h2 (by simpa using h);simpa using this);simp only[zEx,h0,if_true,ih,jBo,jC9,List.drop_succ_cons,jBa];split<;>rfl
theorem zYz(l:wB)(n:Int)(hl:l.length<=1000):my 102 [.sl l.length (jQ l),int n] [] (.sl (zEx l n).length (jQ (zEx l n))) []:=by
 refine mj [] [34] [] [.slot 4] func102 (by kernel_rfl) ?_
 (conv in kH _ _ _=>cbv)
 simp;refine qM (S:=Nat) (fun i=>[(0,.sl l.length (jQ l)),(1,int n),(5,int i)]) (fun i=>[]) (fun i=>i<=l.length/\∀j (h:j<l.length),j<i->l[j]<n) (fun i=>l.length-i) 0 ⟨by omega,fun j _ h=>by omega⟩
  (mw [] 0 (by rfl) (by simp)) ?_
 rintro i ⟨hi,hlt⟩;have hw:i<l.length->IntKind.i64.wrap ((i:Int)+1)=(i:Int)+1:=fun h=>z6 h (show l.length<=maxLen by simp[maxLen];omega)
 by_cases h:i<l.length
 .have hne:¬l=[]:=fun e=>by rw[e]at h;simp at h
  have hcd:=eI h;by_cases hx:l[i]<n
  .simp[h,hne,hcd,hx];intro _;exact zN (i+1) ⟨h,fun j hj hji=>by rcases (by omega:j<i\/j=i)with q|rfl;exact hlt j hj q;exact hx⟩ (by omega) (mw [] 0 (by rfl) (by simp[hw h]))
  .have hp:=zL4 n l i hi hlt (fun _=>hx);by_cases he:l[i]=n
   .simp[h,hne,hcd,hx,he];rw[hp,jA0 h,if_pos (by rw[he])];exact fun _=>zA 0 (by simp)
   .simp[h,hne,hcd,hx,he];intro _;rw[<-hcd,jAc (l:=(jQ l).drop i) (by simp)];have e1:List.take i (jQ l)++A.lit (Value.int IntKind.i64 n)::(jQ l).drop i=jQ (l.take i++n::l.drop i):=by simp[jQ]
    have hp:zEx l n=l.take i++n::l.drop i:=by rw[hp,jA0 h,if_neg (by simpa using he)]
    refine⟨hi,by omega,⟨by simp[maxLen];omega,by omega⟩,⟨by simp[maxLen];omega,by omega⟩,hi,⟨by simp[maxLen];omega,by omega⟩,?_⟩;rw[hp,e1];exact zA 1 (by simp;omega)
 .have hie:i=l.length:=by omega
  have hp:=zL4 n l i hi hlt (fun h'=>absurd h' h);subst hie;have hp:zEx l n=l++[n]:=by rw[hp,jB7 (jA _)];simp
  simp;intro _;refine⟨⟨by simp[maxLen];omega,by omega⟩,⟨by simp[maxLen];omega,by omega⟩,?_⟩;rw[hp];rw[jAc (by simp)];have e1:jQ l++[A.lit (Value.int IntKind.i64 n)]=jQ (l++[n]):=by simp[jQ]
  rw[e1];exact zA 1 (by simp)
def zLg{β:Type}(cf : β->β->Int)(x : β):List β->List β
 |[]=>[x]
 |y::l=>if cf y x<0 then y::zLg cf x l else x::y::l
def zHk{β:Type}(cf : β->β->Int):List β->List β
 |[]=>[]
 |x::l=>zLg cf x (zHk cf l)
theorem zBK{β:Type}(cf : β->β->Int)(x : β):∀l,(zLg cf x l).Perm (x::l)
 |[]=>.refl _
 |y::l=>by
  unfold zLg;split
  .exact((zBK cf x l).cons y).trans (.swap x y l)
  .exact .refl _
theorem zC3{β:Type}{cf : β->β->Int}(ho:Ord cf)(x : β):∀{l:List β},l.Pairwise (fun x y=>¬cf y x<0)->(zLg cf x l).Pairwise (fun x y=>¬cf y x<0)
 |[],_=>by simp[zLg]
 |y::l,h=>by
  obtain⟨h1,h2⟩:=jBh.1 h;unfold zLg;split
  .rename_i hy;refine jBh.2 ⟨fun z hz=>?_,zC3 ho x h2⟩;rcases jA1.1 ((zBK cf x l).mem_iff.1 hz)with rfl|hz
   .exact fun hh=>ho.irrefl _ (ho.trans _ _ _ hy hh)
   .exact h1 z hz
  .rename_i hy;refine jBh.2 ⟨fun z hz=>?_,h⟩;rcases jA1.1 hz with rfl|hz
   .exact hy
   .exact ho.ntrans _ _ _ (h1 z hz) hy
theorem zBM{β:Type}{cf : β->β->Int}(ho:Ord cf):∀l:List β,(zHk cf l).Perm l/\(zHk cf l).Pairwise (fun x y=>¬cf y x<0)
 |[]=>⟨.refl _,.nil⟩
 |x::l=>by obtain⟨h1,h2⟩:=zBM ho l;exact⟨(zBK cf x _).trans (h1.cons x),zC3 ho x h2⟩
theorem zJT{β:Type}{cf : β->β->Int}(ho:Ord cf)(l:List β):oH cf l=zHk cf l:=(zBi ho (zBM ho l).1 (zBM ho l).2).symm
theorem zTl:yG aT=[iD 1,iD 2,iD 3]:=by rw[yG,zUh];kernel_rfl
def zTk:wR:=[⟨iD 1,iD 10,iD 11⟩,⟨iD 2,iD 11,iD 12⟩,⟨iD 3,iD 10,iD 12⟩]
theorem zI0:jV aT=zTk:=by unfold jV;rw[zTl];kernel_rfl
def iG:List wF:=[[iD 1,iD 2],[iD 3]]
theorem tV:yY aT (iD 10) (iD 12)=iG:=by unfold yY;rw[zI0];kernel_rfl
theorem zM7:yY aT (iD 12) (iD 10)=[]:=by unfold yY;rw[zI0];kernel_rfl
theorem zQB:xG aT [iD 1,iD 2] (s4 5) 100=(s4 5,10,0):=by kernel_rfl
theorem zTn:gJ aT (iD 2) 0=[0,1]:=by kernel_rfl
theorem zTm:gJ aT (iD 1) 1=[]:=by kernel_rfl
theorem zTp:bB aT (yB (iD 10)) 1=([s4 0,s4 (-1),s4 1],0):=by unfold bB;rw[zJT zDW.ord];kernel_rfl
theorem zQA:p7 aT (iD 10) (iD 12) 1 100=(s4 (-1),iG,19):=by unfold p7;rw[zTp,tV];kernel_rfl
def sF(o:Option wB):A:=.tup [.sl (o.getD []).length (jQ (o.getD [])),bl o.isSome]
abbrev Few(l:wB):Prop:=Inc l/\∀x∈l,0<=x/\x<100
theorem zMJ:∀(n:Nat) (l:wB) (lo:Int),Inc l->(∀x∈l,lo<=x/\x<lo+n)->l.length<=n
 |_,[],_,_,_=>by simp
 | 0,x::l,lo,_,h=>by have:=h x (by simp);omega
 |n+1,x::l,lo,hi,h=>by
  have h1:=jBh.1 hi;have:=zMJ n l (lo+1) h1.2 fun y hy=>by have:=h1.1 y hy;have:=h x (by simp);have:=h y (by simp[hy]);omega
  simp only[jAb];omega
variable{l:wB}
theorem Few.len(h:Few l):l.length<=100:=zMJ 100 l 0 h.1 fun x hx=>by have:=h.2 x hx;omega
theorem Few.put(h:Few l){n:Int}(hn:0<=n/\n<100):Few (zEx l n):=⟨zEv n h.1,fun x hx=>by
 rcases (zBa x n l).1 hx with hx|rfl
 .exact h.2 x hx
 .exact hn⟩
theorem Few.puts(h:Few l):∀{m:wB},(∀x∈m,0<=x/\x<100)->Few (m.foldl zEx l):=fun {m} hm=>⟨zEz m h.1,fun x hx=>by
 rcases (zE0 x m l).1 hx with hx|hx
 .exact h.2 x hx
 .exact hm x hx⟩
theorem zE3(s:Id)(acc a:wB)(e:Exp):∀(l:wG) (acc:wB),iW s acc l=some a->iW s acc (l++[e])=(dP s e).map fun m=>m.foldl zEx a
 |[],acc,h=>by cases h;simp only[jBm,iW];cases dP s e<;>rfl
 |x::l,acc,h=>by
  simp only[iW,jBa]at h⊢;cases hx:dP s x with
  |none=>rw[hx]at h;cases h
  |some m=>rw[hx]at h;exact zE3 s acc a e l _ h
theorem zE2(s:Id)(e:Exp)(r:wG)(he:dP s e=none):∀(l:wG) (acc a:wB),iW s acc l=some a->iW s acc (l++e::r)=none
 |[],acc,a,h=>by simp only[jBm,iW,he]
 |x::l,acc,a,h=>by
  simp only[iW,jBa]at h⊢;cases hx:dP s x with
  |none=>rfl
  |some m=>rw[hx]at h;exact zE2 s e r he l _ a h
theorem zI8:∀{l:wG},sX l=true->∀e∈l,lU e=true
 |x::l,h,e,he=>by
  simp only[sX,jA6]at h;rcases jA1.1 he with rfl|he
  .exact h.1
  .exact zI8 h.2 e he
theorem zJs{s:Id}{f:Bool}{n x:Int}{e:Exp}(hx:x∈gL s e):∀{l:wG},e∈l->x∈iL s f n l
 |y::l,he=>by
  rw[iL];rcases jA1.1 he with rfl|he
  .simp[hx]
  .simp[zJs hx he]
theorem zJC(s:Id):∀(N:Nat) (e:Exp),SizeOf.sizeOf e<N->lU e=true->(∀x∈gL s e,0<=x/\x<100)->my 59 [.agg (zH e),.agg (zG s)] [] (sF (dP s e)) []
 | 0,_,h,_,_=>by omega
 |N+1,.mk id k n r t ks ns,hN,hf,hm=>by
  have hfk:∀i (h:i<ks.length),lU ks[i]=true:=fun i h=>by simp only[lU,jA6]at hf;exact zI8 hf.2 _ (jA3 h)
  have hmk:∀i (h:i<ks.length),∀x∈gL s ks[i],0<=x/\x<100:=fun i h x hx=>hm x (by rw[gL];exact zJs hx (jA3 h))
  have ih:∀i (h:i<ks.length),my 59 [.agg (zH ks[i]),.agg (zG s)] [] (sF (dP s ks[i])) []:=fun i h=>by
   refine zJC s N ks[i] ?_ ?_ ?_
   .have:=List.sizeOf_lt_of_mem (jA3 h);simp at hN;omega
   .exact hfk i h
   .exact hmk i h
  have hfw:∀i (h:i<ks.length) m,dP s ks[i]=some m->Few m:=fun i h m hr =>
   ⟨((zH0 s ks[i] (hfk i h)).2 m hr).1,fun x hx=>hmk i h x ((((zH0 s ks[i] (hfk i h)).2 m hr).2 x).1 hx)⟩
  have hE:zH (.mk id k n r t ks ns)=[int id.a,int id.b,int id.c,int k,int n,int r.a,int r.b,int r.c,int t.k,int t.id.a,int t.id.b,int t.id.c,.sl t.kids.length (jG t.kids),.sl ks.length (qL ks),.sl ns.length (yI ns)]:=rfl;refine mq [] [.slot 4,.slot 5] func59 (by kernel_rfl) ?_
  (conv in kq _ _=>cbv)
  simp[hE];by_cases h2:k=2
  .subst h2;simp[hE,zG];by_cases hr:r=s
   .exact zA 0 (by simp[sF,dP,hr])
   .exact zA 0 (by simp[sF,dP,hr])
  .have hl1:k=8->ks.length=1:=fun h=>by simp only[lU,jA6,jB4,jBi,decide_eq_false_iff_not,decide_eq_true_eq]at hf;exact hf.1.2.resolve_left fun q=>q h
   obtain⟨x,hx0⟩:∃x,ks.headD .zero=x:=⟨_,rfl⟩;have hc0:k=8->qL ks=zH x++qL ks.tail:=fun h=>by
    have:=hl1 h;cases ks with
    |nil=>simp at this
    |cons y l=>rw[<-hx0];exact zM _ _
   have hcs:(¬k=8/\True/\True)\/(k=8/\¬x.k=2/\True)\/(k=8/\x.k=2/\¬x.ref=s)\/(k=8/\x.k=2/\x.ref=s):=by by_cases h8:k=8<;>by_cases hx:x.k=2<;>by_cases hy:x.ref=s<;>simp[h8,hx,hy]
   rcases hcs with ⟨h8,hx,hy⟩|⟨h8,hx,hy⟩|⟨h8,hx,hy⟩|⟨h8,hx,hy⟩
   rotate_left 3
   .have hd:dP s (.mk id k n r t ks ns)=some [n]:=by simp only[dP,hx0,isS,hx,hy];simp[h8,hl1 h8]
    simp[hE,h2,h8,hl1 h8,hc0 h8,zH,zG,hx,hy];exact zA 0 (by simp[hd,h8▸hd,sF,jQ])
   all_goals
    have hd:dP s (.mk id k n r t ks ns)=iW s [] ks:=by simp only[dP,hx0,isS];simp[h2,h8,hx,hy]
    rw[hd];simp[hE,h2,h8,hl1,hc0,zH,zG,hx,hy]
   all_goals
    refine qM (S:=Nat×wB) (fun q=>[(2,.ptr 0 0),(3,.ptr 1 0),(6,.sl q.2.length (jQ q.2)),(7,int q.1)]) (fun _=>[.box (zH (.mk id k n r t ks ns)),.box (zG s)])
     (fun q=>q.1<=ks.length/\iW s [] (ks.take q.1)=some q.2/\Few q.2) (fun q=>ks.length-q.1) (0,[]) ⟨by omega,by simp[iW],⟨by simp,by simp⟩⟩
     (mw [0,1] 0 (by rfl) (by simp[hE,zG,h8,hl1,hc0,zH,hx,hy])) ?_
    rintro⟨i,acc⟩ ⟨hi,hacc,hfew⟩;simp only at hi hacc hfew;by_cases h:i<ks.length
    .have hcd:=yT h;have ih:=ih i h;have hne:¬ks=[]:=fun e=>by rw[e]at h;simp at h
     have htk:ks.take (i+1)=ks.take i++[ks[i]]:=jA8 h;simp[hE,h,hcd,hne,zG];intro hlb;have hw:=z6 h hlb;refine zZ ih (by simp[zG]) (by simp[sF]) ?_;cases hr:dP s ks[i]with
     |none =>
      have hn:iW s [] ks=none:=by
       have:=zE2 s ks[i] (ks.drop (i+1)) hr (ks.take i) [] acc hacc
       rwa[show ks.take i++ks[i]::ks.drop (i+1)=ks from by rw[<-jB0 h,jC0]]at this
      simp[sF];exact zA 0 (by simp[hn,sF,jQ])
     |some m =>
      have hm':Few m:=hfw i h m hr;have hml:=hm'.len;simp[sF];refine qM (S:=Nat) (fun j=>[(2,.ptr 0 0),(3,.ptr 1 0),(6,.sl ((m.take j).foldl zEx acc).length (jQ ((m.take j).foldl zEx acc))),(7,int i),(8,.sl m.length (jQ m)),(10,int j)]) (fun _=>[.box (zH (.mk id k n r t ks ns)),.box (zG s)])
       (fun j=>j<=m.length) (fun j=>m.length-j) 0 (by omega)
       (mw [0,1] 0 (by rfl) (by simp[hE,zG])) ?_
      intro j hj;by_cases hjl:j<m.length
      .have hcdj:=eI hjl;have hmne:¬m=[]:=fun e=>by rw[e]at hjl;simp at hjl
       have hfj:Few ((m.take j).foldl zEx acc):=hfew.puts fun x hx=>hm'.2 x (jCd hx)
       have hput:=zYz ((m.take j).foldl zEx acc) m[j] (by have:=hfj.len;omega);have hA:zEx ((m.take j).foldl zEx acc) m[j]=(m.take (j+1)).foldl zEx acc:=by rw[jA8 hjl,jCf];rfl
       rw[hA]at hput;have hwj:=z6 hjl (show m.length<=maxLen by simp[maxLen];omega);simp[hE,zG,hjl,hcdj,hmne];intro _;refine mu hput (by simp) ?_;simp;exact zN (j+1) hjl (by omega) (mw [0,1] 0 (by rfl) (by simp[hE,zG,hwj]))
      .have hjm:j=m.length:=by omega
       subst hjm;rw[jAr];simp[hE,zG]
       intros
       exact zN (i+1,m.foldl zEx acc) ⟨h,by rw[htk,zE3 s [] acc ks[i] _ [] hacc,hr];rfl,hfew.puts hm'.2⟩ (by simp only;omega) (mw [0,1] 0 (by rfl) (by simp[hE,zG,hw]))
    .have hie:i=ks.length:=by omega
     subst hie;rw[jAr]at hacc;simp[hE,zG]
     intros
     exact zA 0 (by simp[hacc,sF])
theorem zNg(a b:wB)(ha:a.length<=1000):my 23 [.sl a.length (jQ a),.sl b.length (jQ b)] [] (bl (decide (a=b))) []:=by
 refine mq [] [.slot 4] func23 (by kernel_rfl) ?_
 (conv in kq _ _=>cbv)
 by_cases hab:a.length=b.length
 .have hab':(a.length:Int)=b.length:=by omega
  simp[hab];intro hlb;refine qM (S:=Nat) (fun i=>[(0,.sl a.length (jQ a)),(1,.sl b.length (jQ b)),(5,int i)]) (fun s=>[]) (fun i=>i<=a.length/\a.take i=b.take i) (fun i=>a.length-i) 0 (by simp)
   (mw [] 0 (by rfl) (by simp[hab])) ?_
  rintro i ⟨hi,hn⟩;by_cases h:i<a.length
  .have hb:i<b.length:=by omega
   have hpa:=eI h;have hpb:=eI hb;have hane:¬a=[]:=fun e=>by rw[e]at h;simp at h
   have hbne:¬b=[]:=fun e=>by rw[e]at hb;simp at hb
   have hw:=z6 h (show a.length<=maxLen by simp[maxLen];omega);by_cases hx:a[i]=b[i]
   .simp[h,hb,hpa,hpb,hane,hbne,hx];intro _;refine zN (i+1) ⟨h,?_⟩ (by omega) (mw [] 0 (by rfl) (by simp[hw]));rw[jA8 h,jA8 hb,hn,hx]
   .have hne:a≠b:=fun e=>hx (by subst e;rfl)
    simp[h,hb,hpa,hpb,hane,hbne,hx];exact fun _=>zA 0 (by simp[hne])
  .have:i=a.length:=by omega
   subst this;simp;have:a=b:=by rw[jAr,hab,jAr]at hn;exact hn
   exact fun _=>zA 0 (by simp[this])
 .have hne:a≠b:=fun e=>hab (by rw[e])
  have hab':¬(a.length:Int)=b.length:=by omega
  simp[hab'];exact fun _ _=>zA 0 (by simp[hne])
def zGD:K:=(Z (G [M 53 4,kQi 54 53 0 true,M 55 54,T 55 false (M 56 6),T 55 false (kQi 57 56 0 true),kPt 58 55 57,M 59 58,T 59 false (M 60 9),T 59 false (kQi 61 60 0 true),kPt 62 59 61,M 63 62,T 63 false (M 64 12),T 63 false (kQi 65 64 19 true),kPt 66 63 65,M 67 66,T 67 false (M 68 5),T 67 false (kN 69 68),T 67 false (kBi 70 69 0 .gtr),kPt 71 67 70,M 72 71,T 72 false (M 73 8),T 72 false (kQi 74 73 10 true),kPt 75 72 74] (Y 75 (G [kMb 0 false] kr) ks)) (Z (K.dops [(0,0,J 76 7 3),(1,0,kC 77 51 [(kc 5)]),(2,0,kC 78 18 [(kt 76),(kt 77)]),(3,0,kQi 79 78 0 false),(4,0,M 80 79),(5,0,T 80 true (J 81 10 3)),(6,0,T 80 true (kC 82 51 [(kc (-1))])),(7,0,T 80 true (kC 83 18 [(kt 81),(kt 82)])),(8,0,T 80 true (kQi 84 83 0 false)),(9,0,kPf 85 80 84),(10,0,M 13 85)]) (Z (K.dops [(0,0,M 86 13),(1,0,M 87 86),(2,0,T 87 true (M 88 3)),(3,0,T 87 true (M 89 2)),(4,0,T 87 true (kC 90 22 [(kt 88),(kt 89)])),(5,0,kPf 91 87 90),(6,0,M 92 91),(7,0,T 92 true (M 93 11)),(8,0,T 92 true (M 94 2)),(9,0,T 92 true (kC 95 22 [(kt 93),(kt 94)])),(10,0,kPf 96 92 95),(11,0,M 97 96),(12,0,T 97 true (J 98 1 2)),(13,0,T 97 true (kC 99 50 [(kc 2)])),(14,0,T 97 true (kC 100 24 [(kt 98),(kt 99),(kc 0)])),(15,0,⟨some (97,true),.bslice (some 101) 3 1 2 [ki,ki] [(0,1,(kc 0)),(1,1,(kc 1))]⟩),(16,0,T 97 true (kC 102 23 [(kt 100),(kt 101)])),(17,0,kPf 103 97 102),(18,0,M 104 103),(19,0,T 104 true (J 105 1 2)),(20,0,T 104 true (kC 106 50 [(kc 1)])),(21,0,T 104 true (kC 107 24 [(kt 105),(kt 106),(kc 1)])),(22,0,
 T 104 true (kN 108 107)),(23,0,T 104 true (kQi 109 108 0 false)),(24,0,kPf 110 104 109),(25,0,M 0 110)]) kr)))
def zPv:K:=G [kMb 0 false] (G [kC 14 49 [],kZ 1 [kl,kl],S 1 14 2] (G [kC 15 50 [(kc 1)],kC 16 50 [(kc 2)],kd 17 31 3 2 [ki,ki,ki,ki,ki,ki] [(0,3,(kt 15)),(3,3,(kt 16))],kC 18 50 [(kc 3)],kd 19 31 3 1 [ki,ki,ki] [(0,3,(kt 18))],kd 20 28 1 2 [kl,kl] [(0,1,(kt 17)),(1,1,(kt 19))],M 2 20] (Z (K.dops [(0,0,J 22 1 2),(1,0,kC 23 50 [(kc 10)]),(2,0,kC 24 50 [(kc 12)]),(3,0,kC 25 20 [(kt 22),(kt 23),(kt 24)]),(4,0,M 21 25),(5,0,kE 26 21 0),(6,0,kE 27 21 1),(7,0,M 3 26),(8,0,M 4 27)]) (Z (K.dops [(0,0,J 29 1 2),(1,0,kC 30 50 [(kc 12)]),(2,0,kC 31 50 [(kc 10)]),(3,0,kC 32 20 [(kt 29),(kt 30),(kt 31)]),(4,0,M 28 32),(5,0,kE 33 28 0),(6,0,kE 34 28 1),(7,0,M 5 33),(8,0,M 6 34)]) (Z (K.dops [(0,1,J 36 1 2),(1,0,M 37 2),(2,1,kXi 38 37 1 0),(3,1,L 39 38 1),(4,1,kC 40 51 [(kc 5)]),(5,1,kC 41 16 [(kt 36),(kt 39),(kt 40),(kc 100)]),(6,0,M 35 41),(7,0,kE 42 35 0),(8,0,kE 43 35 1),(9,0,kE 44 35 2),(10,0,kZ 7 [ki,ki,kl]),(11,0,S 7 42 3),(12,0,M 8 43),(13,0,M 9 44)]) (Z (K.dops [(0,1,J 46 1 2),(1,1,kC 47 50 [(kc 10)]),(2,1,kC 48 50 [(kc 12)]),(3,1,kC 49 26 [(kt 46),(kt 47),(kt 48),(kc 1),(kc 100)]),(4,0,M 45 49),(5,0,kE 50 45 0),(6,0,kE 51 45 1),(7,0,kE 52 45 2),(8,0,kZ 10 [ki,ki,kl]),(9,0,S 10 50 3),(10,0,M 11 51),(11,0,M 12 52)]) (K.wk zGD)))))))
theorem zWQ:ky f19 zPv:=m_ (by kernel_rfl)
theorem zXC:Sml aT:=by unfold Sml;decide
theorem zYa:my 20 [.agg (zT aT),.agg (zG (iD 10)),.agg (zG (iD 12))] [] (.tup [.sl 2 (jM iG),int 0]) []:=by have:=zAp zA9 (iD 10) (iD 12) (by rw[tV];decide);unfold fZ at this;rw[tV,if_pos (by decide)]at this;exact this
theorem zYb:my 20 [.agg (zT aT),.agg (zG (iD 12)),.agg (zG (iD 10))] [] (.tup [.sl 0 [],int 0]) []:=by have:=zAp zA9 (iD 12) (iD 10) (by rw[zM7];decide);unfold fZ at this;rw[zM7,if_pos (by decide)]at this;exact this
theorem zXX:my 16 [.agg (zT aT),.sl 2 (zP [iD 1,iD 2]),.agg (zL (s4 5)),int 100] [] (.tup [.agg (zL (s4 5)),int 10,int 0]) []:=by have:=zPG zA9 [iD 1,iD 2] (by decide) (s4 5) (by decide) 100 (by omega) (by omega);rw[zQB]at this;exact this
theorem zXW:my 26 [.agg (zT aT),.agg (zG (iD 10)),.agg (zG (iD 12)),int 1,int 100] [] (.tup [.agg (zL (s4 (-1))),.sl 2 (jM iG),int 19]) []:=by have:=zPF zA9 zXC (iD 10) (iD 12) (by rw[tV];decide) (by rw[tV];decide) 1 100 (by omega) (by omega) (zHI _ _ _);rw[zQA]at this;exact this
theorem zXZ:my 24 [.agg (zT aT),.agg (zG (iD 2)),int 0] [] (.sl 2 (jQ [0,1])) []:=by have:=zB4 aT (by decide) (iD 2) 0;rw[zTn]at this;exact this
theorem zXY:my 24 [.agg (zT aT),.agg (zG (iD 1)),int 1] [] (.sl 0 []) []:=by have:=zB4 aT (by decide) (iD 1) 1;rw[zTm]at this;exact this
theorem qEJ:wpK prog 0 zGD (fin [RS.slot 0] (s8 0 (bl true) [])) (qK [(1,.ptr 0 0),(2,.sl 2 (jM iG)),(3,.sl 2 (jM iG)),(4,int 0),(5,.sl 0 []),(6,int 0),(7,.ptr 1 0),(8,int 10),(9,int 0),(10,.ptr 2 0),(11,.sl 2 (jM iG)),(12,int 19)]) [.box (zT aT),.box (zL (s4 5)),.box (zL (s4 (-1)))]:=by
 have hP:zT aT=[.sl aT.mods.length (qO aT.mods),.sl aT.defs.length (z7 aT.defs)]:=rfl;have f2:=zXZ;have f1:=zXY;generalize aT=P at *
 have c1:=oV (s4 5) (s4 5);have c2:=oV (s4 (-1)) (s4 (-1));rw[o6]at c1 c2;have s1:my 22 [.sl 2 (jM iG),.sl 2 (jM iG)] [] (bl true) []:=by have:=zH5 iG iG (by decide);rw[show decide (iG=iG)=true from decide_eq_true rfl]at this;exact this
 have s2:my 23 [.sl 2 (jQ [0,1]),.sl 2 (jQ [0,1])] [] (bl true) []:=by have:=zNg [0,1] [0,1] (by decide);rw[show decide ([0,1]=([0,1]:wB))=true from decide_eq_true rfl]at this;exact this
 unfold zGD;simp[hP,zL];refine zZ (zEj 5) (by simp) (by simp[zL]) ?_
 try simp[zL]
 refine zZ c1 (by simp[zL]) (by simp) ?_
 try simp[zL]
 refine zZ (zEj (-1)) (by simp) (by simp[zL]) ?_
 try simp[zL]
 refine zZ c2 (by simp[zL]) (by simp) ?_
 try simp[zL]
 refine zZ s1 (by simp) (by simp) ?_
 try simp
 refine zZ s1 (by simp) (by simp) ?_
 try simp
 refine zZ (iJ 2) (by simp) (by simp[zG]) ?_
 try simp[zG]
 refine zZ f2 (by simp[hP,zG]) (by simp) ?_
 try simp
 refine zZ s2 (by simp[jQ]) (by simp) ?_
 try simp
 refine zZ (iJ 1) (by simp) (by simp[zG]) ?_
 try simp[zG]
 refine zZ f1 (by simp[hP,zG]) (by simp) ?_
 try simp
 exact zA 0 (by simp)
theorem zLp:my 19 [] [] (bl true) []:=by
 have hP:zT aT=[.sl aT.mods.length (qO aT.mods),.sl aT.defs.length (z7 aT.defs)]:=rfl;have hx:=zTj;have p1:=zYa;have p2:=zYb;have pa:=zXX;have pg:=zXW;have hT:=qEJ;generalize aT=P at *
 refine zO func19 rfl zWQ (rs:=[.slot 0]) (by kernel_rfl) ?_;unfold zPv;simp;refine mu hx (by simp[hP]) ?_;simp[hP];refine mu (iJ 1) (by simp[zG]) ?_;simp;refine mu (iJ 2) (by simp[zG]) ?_;simp[zG];refine mu (iJ 3) (by simp[zG]) ?_;simp[zG];refine zZ (iJ 10) (by simp[hP,zG,zP]) (by simp[zG,zP]) ?_
 try simp[zG,zL]
 refine zZ (iJ 12) (by simp[hP,zG,zP]) (by simp[zG,zP]) ?_
 try simp[zG,zL]
 refine zZ (p1) (by simp[hP,zG,zP]) (by simp[zG,zP]) ?_
 try simp[zG,zL]
 refine zZ (iJ 12) (by simp[hP,zG,zP]) (by simp[zG,zP]) ?_
 try simp[zG,zL]
 refine zZ (iJ 10) (by simp[hP,zG,zP]) (by simp[zG,zP]) ?_
 try simp[zG,zL]
 refine zZ (p2) (by simp[hP,zG,zP]) (by simp[zG,zP]) ?_
 try simp[zG,zL]
 refine aO (zEj 5) (by simp[hP,zG,zP,zL]) (by simp[zG,zP,zL]) ?_
 try simp[zG,zL]
 refine aO (pa) (by simp[hP,zG,zP,zL]) (by simp[zG,zP,zL]) ?_
 try simp[zG,zL]
 refine aO (iJ 10) (by simp[hP,zG,zP]) (by simp[zG,zP]) ?_
 try simp[zG,zL]
 refine aO (iJ 12) (by simp[hP,zG,zP]) (by simp[zG,zP]) ?_
 try simp[zG,zL]
 refine aO (pg) (by simp[hP,zG,zP,zL]) (by simp[zG,zP,zL]) ?_
 try simp[zG,zL]
 refine⟨_,_,kf [0,1,2] 0 (by rfl) ?_ ?_,hT⟩
 .simp[hP,zL]
 .simp[iG,jM,zP]
def xR(p:Prg)(conv:Id)(to:Int):wB:=match qI p.defs conv,yJ p conv with
 |some d,some (a,b) =>
  if a.k=3/\b.k=3/\((qI p.defs a.id).getD .zero).kind=0/\((qI p.defs b.id).getD .zero).kind=0/\0<=to/\to<((qI p.defs b.id).getD .zero).slots.length
  then (match dP (d.slots.headD ⟨.zero,⟨#[]⟩,.zero,0,0⟩).id (bY d.body to)with|some l=>l|none=>bU ((qI p.defs a.id).getD .zero).slots.length)else []
 |_,_=>[]
@[simp]theorem zL6(n:Nat):(bU n).length=n:=by simp[bU]
theorem uN(n:Nat):jQ (bU (n+1))=jQ (bU n)++[int n]:=by simp[zC9,jQ]
theorem zOU(p:Prg)(hL:p.defs.length<=1000000)(hb:∀d∈p.defs,d.slots.length<=1000)(conv:Id)(to:Int)
 (hw:∀d s,qI p.defs conv=some d->d.kind=5->d.slots=[s]->s.typ.k=3->0<=to->lU (bY d.body to)=true/\∀x∈gL s.id (bY d.body to),0<=x/\x<100) :
 my 25 [.agg (zT p),.agg (zG conv),int to] [] (.sl (xR p conv to).length (jQ (xR p conv to))) []:=by
 have hP:=eP p;have hz:∀id,((qI p.defs id).getD .zero).slots.length<=1000:=fun id=>by
  cases h:qI p.defs id with
  |none=>simp[Dfn.zero]
  |some d=>exact hb d (y6 h).1
 have hfv:∀L,xR p conv to=L->my 25 [.agg (zT p),.agg (zG conv),int to] [] (.sl L.length (jQ L)) []:=by
  intro L hL';refine mq [] [.slot 6] func25 (by kernel_rfl) ?_
  (conv in kq _ _=>cbv)
  simp[hP,zG];refine mu (zDS p hL conv) (by simp[hP,zG]) ?_;cases hv:yJ p conv with
  |none =>
   have hnil:L=[]:=by rw[<-hL'];unfold xR;rw[hv];cases qI p.defs conv<;>rfl
   subst hnil;simp[bT,zB];exact zA 0 (by simp[jQ])
  |some ab =>
   obtain⟨a,b⟩:=ab;obtain⟨d,s,hd,hk5,hs,hab⟩:=x7 hv;cases hab;simp only[xR,hd,hv]at hL';by_cases ha:s.typ.k=3
   .by_cases hbk:d.res.k=3
    .simp[bT,zB,ha,hbk,hP,zG];refine mu (pP p hL s.typ.id) (by simp[hP,zG,dL]) ?_;simp[dL,zB,zG];refine mu (pP p hL d.res.id) (by simp[hP,zG,dL]) ?_;simp[dL,zB,zG];have hX1:((qI p.defs s.typ.id).getD .zero).slots.length<=1000:=hz _;generalize (qI p.defs s.typ.id).getD .zero=X at hL' hX1 ⊢;generalize (qI p.defs d.res.id).getD .zero=Y at hL' ⊢;by_cases hX:X.kind=0
     .by_cases hY:Y.kind=0
      .by_cases h0:0<=to
       .by_cases h1:to<Y.slots.length
        .rw[if_pos ⟨ha,hbk,hX,hY,h0,h1⟩,hs]at hL';simp only[jCx]at hL';obtain⟨hf,hm⟩:=hw d s hd hk5 hs ha h0;have h0':¬to<0:=by omega
         have h1':¬(Y.slots.length:Int)<=to:=by omega
         simp[zI,hX,hY,h0',h1',h0,h1];intro _;refine mu (pP p hL conv) (by simp[hP,zG,dL]) ?_;have hcs:jF [s]=j4 s:=by simp[jF]
         simp[dL,hd,hs,hcs,zI,j4];obtain⟨n,rfl⟩:∃n:Nat,to=n:=⟨to.toNat,by omega⟩;have hrd:=zJC s.id _ (bY d.body n) (Nat.lt_succ_self _) hf hm;by_cases h7:d.body.k=7
         .by_cases hn:n<d.body.kids.length
          .have hba:bY d.body n=d.body.kids[n]:=by unfold bY;rw[if_pos ⟨h7,by omega⟩];simp[jBe,hn]
           have hcd:=yT hn;have hne:¬d.body.kids=[]:=fun e=>by rw[e]at hn;simp at hn
           rw[hba]at hrd hL';simp[h7,hn,hcd,hne];intro _;refine zZ hrd (by simp[zH,zG,h7]) (by simp[sF]) ?_;cases hr:dP s.id d.body.kids[n]with
           |some l =>
            rw[hr]at hL';subst hL';simp[sF];exact zA 0 (by simp)
           |none =>
            rw[hr]at hL';subst hL';simp[sF];refine qM (S:=Nat) (fun i=>[(10,.ptr 0 0),(19,.row 1 i),(20,int i)]) (fun i=>[.box (zI X),.row false 3 1 i (jQ (bU i))]) (fun i=>i<=X.slots.length) (fun i=>X.slots.length-i) 0 (by omega)
             ((jW (t:=19) (by simp) 3 1).trans (mw [4,8] 0 (by rfl) (by simp[zI,hX,bU,jQ]))) ?_
            intro i hi;by_cases h:i<X.slots.length
            .have hw:=z6 h (show X.slots.length<=maxLen by simp[maxLen];omega);simp[zI,h];intro _;refine⟨by simp[maxLen];omega,?_⟩;exact zN (i+1) h (by omega) (mw [0,1] 0 (by rfl) (by simp[zI,uN,hw]))
            .have hie:i=X.slots.length:=by omega
             subst hie;simp[zI];exact fun _=>zA 1 (by simp)
          .have hba:bY d.body n=d.body:=by unfold bY;rw[if_neg (by simp;omega)]
           rw[hba]at hrd hL';simp[h7,hn];intro _;refine zZ hrd (by simp[zH,zG,h7]) (by simp[sF]) ?_;cases hr:dP s.id d.body with
           |some l =>
            rw[hr]at hL';subst hL';simp[sF];exact zA 0 (by simp)
           |none =>
            rw[hr]at hL';subst hL';simp[sF];refine qM (S:=Nat) (fun i=>[(10,.ptr 0 0),(19,.row 1 i),(20,int i)]) (fun i=>[.box (zI X),.row false 3 1 i (jQ (bU i))]) (fun i=>i<=X.slots.length) (fun i=>X.slots.length-i) 0 (by omega)
             ((jW (t:=19) (by simp) 3 1).trans (mw [4,8] 0 (by rfl) (by simp[zI,hX,bU,jQ]))) ?_
            intro i hi;by_cases h:i<X.slots.length
            .have hw:=z6 h (show X.slots.length<=maxLen by simp[maxLen];omega);simp[zI,h];intro _;refine⟨by simp[maxLen];omega,?_⟩;exact zN (i+1) h (by omega) (mw [0,1] 0 (by rfl) (by simp[zI,uN,hw]))
            .have hie:i=X.slots.length:=by omega
             subst hie;simp[zI];exact fun _=>zA 1 (by simp)
         .have hba:bY d.body n=d.body:=by unfold bY;rw[if_neg (by simp[h7])]
          rw[hba]at hrd hL';simp[h7];refine zZ hrd (by simp[zH,zG,h7]) (by simp[sF]) ?_;cases hr:dP s.id d.body with
          |some l =>
           rw[hr]at hL';subst hL';simp[sF];exact zA 0 (by simp)
          |none =>
           rw[hr]at hL';subst hL';simp[sF];refine qM (S:=Nat) (fun i=>[(10,.ptr 0 0),(19,.row 1 i),(20,int i)]) (fun i=>[.box (zI X),.row false 3 1 i (jQ (bU i))]) (fun i=>i<=X.slots.length) (fun i=>X.slots.length-i) 0 (by omega)
            ((jW (t:=19) (by simp) 3 1).trans (mw [4,8] 0 (by rfl) (by simp[zI,hX,bU,jQ]))) ?_
           intro i hi;by_cases h:i<X.slots.length
           .have hw:=z6 h (show X.slots.length<=maxLen by simp[maxLen];omega);simp[zI,h];intro _;refine⟨by simp[maxLen];omega,?_⟩;exact zN (i+1) h (by omega) (mw [0,1] 0 (by rfl) (by simp[zI,uN,hw]))
           .have hie:i=X.slots.length:=by omega
            subst hie;simp[zI];exact fun _=>zA 1 (by simp)
        .rw[if_neg (by simp[h1])]at hL';subst hL';have h0':¬to<0:=by omega
         have h1':(Y.slots.length:Int)<=to:=by omega
         simp[zI,hX,hY,h0',h1']
         intros
         exact zA 0 (by simp[jQ])
       .rw[if_neg (by simp[h0])]at hL';subst hL';have h0':to<0:=by omega
        simp[zI,hX,hY,h0'];exact zA 0 (by simp[jQ])
      .rw[if_neg (by simp[hY])]at hL';subst hL';simp[zI,hX,hY];exact zA 0 (by simp[jQ])
     .rw[if_neg (by simp[hX])]at hL';subst hL';simp[zI,hX];exact zA 0 (by simp[jQ])
    .rw[if_neg (by simp[hbk])]at hL';subst hL';simp[bT,zB,ha,hbk];exact zA 0 (by simp[jQ])
   .rw[if_neg (by simp[ha])]at hL';subst hL';simp[bT,zB,ha];exact zA 0 (by simp[jQ])
 exact hfv _ rfl
theorem zKW(hl:∀x∈l,w64 x=x):(jV (tY l)).length<=7:=by
 have h1:(jV (tY l)).length=(fY (tY l)).length:=by rw[<-lR (zFQ hl)];exact(fL _).length_eq
 rw[h1];have h2:fY (tY l)=(aB l).filterMap jZ:=rfl;rw[h2];unfold aB;rw[List.filterMap_append,jA5];have h3:((yL l (yQ l) ⟨1,40⟩).1.filterMap jZ)=[]:=by rw[List.filterMap_eq_nil_iff];intro a ha;have:=(rV hl a ha).kind;unfold jZ;rw[if_neg (by omega)]
 rw[h3];have h4:=jDf jZ (aM l (yL l (yQ l) ⟨1,40⟩).1 (gN l (yL l (yQ l) ⟨1,40⟩).2 8).toNat (yL l (yQ l) ⟨1,40⟩).2.tick).1;rw[gK]at h4;obtain⟨v0,v1⟩:=dE hl (yL l (yQ l) ⟨1,40⟩).2 (n:=8) (by omega);simp only[jBc];omega
theorem zL0(hl:∀x∈l,w64 x=x){P:Prg}(h:PrgOk l P):(jV P).length<=7:=by
 have h1:(jV P).length=(fY P).length:=by rw[<-lR (h.fit hl)];exact(fL _).length_eq
 have h5:=h.len5;have h0:∃d ds,P.defs=d::ds/\d.kind=0:=by
  have hh:=h.heads;cases hd:P.defs with
  |nil=>rw[hd]at h5;simp at h5
  |cons d ds =>
   refine⟨d,ds,rfl,?_⟩;have hx:(P.defs.map Dfn.hd)[0]?=(hsV l (nmV l))[0]?:=by rw[hh]
   rw[hd]at hx;simp only[jAg,jB]at hx;have hl0:0<(qD l (nmV l:Int)).length:=by have:=(bR l (nmV l:Int)).1;omega
   have hp:(qD l (nmV l:Int))[0]'hl0=cY l (nmV l):=by simp[qD]
   have hg:=nB (nmV l:Int) (qD l (nmV l)) hl0;rw[hp]at hg;rw[jA0 (by simpa using hl0),hg]at hx;exact congrArg Hd.kind (jB5 hx)
 obtain⟨d,ds,hd,hk⟩:=h0;have h2:fY P=P.defs.filterMap jZ:=rfl;rw[h1,h2,hd];have h3:jZ d=none:=by unfold jZ;rw[if_neg (by omega)]
 rw[List.filterMap_cons,h3];have:=jDf jZ ds;rw[hd]at h5;simp only[jAb]at h5;simp only;omega
theorem zL2(l:wB)(hl:∀x∈l,w64 x=x)(which:Int):∃(P:Prg) (hs:wO),Fit P hs/\1<=P.defs.length/\(jV P).length<=7/\my 10 [.sl l.length (jQ l),int which] [] (.agg (zT P)) []:=by
 have hw:bO which 5=bO which 5:=rfl;have ra:=zBv which 5 (by omega);by_cases h:bO which 5=0
 .obtain⟨P,hP,rP⟩:=zTX l hl;have h5:=hP.len5;refine⟨P,_,hP.fit hl,by omega,zL0 hl hP,?_⟩;refine mq [] [.cell 4 2 true] func10 (by kernel_rfl) ?_
  (conv in kq _ _=>cbv)
  simp;refine mu ra (by simp) ?_;simp[h];refine mu rP (by simp[zT]) ?_;simp[zT];exact zA 0 (by simp[zT])
 .have rP:=zQU hl;have h2:=zBG hl;refine⟨tY l,_,zFQ hl,by show 1<=(aB l).length;omega,zKW hl,?_⟩;refine mq [] [.cell 4 2 true] func10 (by kernel_rfl) ?_
  (conv in kq _ _=>cbv)
  simp;refine mu ra (by simp) ?_;simp[h];refine mu rP (by simp[zT]) ?_;simp[zT];exact zA 0 (by simp[zT])
def aE(k:wB)(LS:List wF)(i:Nat)(at_ fuel:Int):List (Nat×A):=[(2,.sl k.length (jQ k)),(4,int at_),(5,int fuel),(13,.ptr 0 0),(16,.sl LS.length (jM LS)),(17,int i)]
section
variable{p:Prg}{hs:wO}(hf:Fit p hs){k:wB}{LS:List wF}{i:Nat}{at_ fuel:Int}
include hf
end
variable{p:Prg}
theorem zN2{B:wI}{e:Exp}{t:Typ}(h:WE p B e t){to:Int}(h0:0<=to):∃t',WE p B (bY e to) t':=by
 unfold bY;by_cases hc:e.k=7/\to<e.kids.length
 .rw[if_pos hc];obtain⟨hk,hn⟩:=hc;cases h<;>simp only[Exp.k]at hk<;>first|omega|skip
  rename_i i n r u ks ns hn' d hd hk' hl hw;simp only[Exp.kids]at hn ⊢;have hj:to.toNat<ks.length:=by omega
  rw[jBe,jA0 hj,jBf];exact⟨_,hw _ hj⟩
 .rw[if_neg hc];exact⟨t,h⟩
variable{hs:wO}
theorem zSo(hf:Fit p hs){r:Nat}{t:Typ}(h:TyOk hs r t)(h3:t.k=3):∃d,qI p.defs t.id=some d/\t=yB t.id:=by
 cases h with
 |int=>cases h3
 |bool=>cases h3
 |list _ _ _=>cases h3
 |dfn r k hk _ _ _ _ =>
  obtain⟨d,hd,_⟩:=hf.hd k hk;exact⟨d,hd,rfl⟩
theorem zCv(hf:Fit p hs){conv:Id}{to:Int}{d:Dfn}{s:Slt}(hd:qI p.defs conv=some d)(hk:d.kind=5)(hsl:d.slots=[s])(h3:s.typ.k=3)(h0:0<=to) :
 ∃a t,qI p.defs s.typ.id=some a/\a.slots.length<=6/\WE p (cV d) (bY d.body to) t/\(∃b∈cV d,b.id=s.id)/\∀b∈cV d,b.id=s.id->b.typ=yB s.typ.id:=by
 have hty:=(hf.slots d (y6 hd).1).2.2.2.2 s (by rw[hsl];simp);obtain⟨a,ha,hta⟩:=zSo hf hty h3;obtain⟨t,ht⟩:=zN2 (hf.bods _ _ hd (by simp[fA,hk])) h0;refine⟨a,t,ha,(hf.slots a (y6 ha).1).2.1,ht,?_,?_⟩
 .simp[cV,hsl]
 .intro b hb _;simp only[cV,hsl,jAg,jBq,jAl]at hb;subst hb;exact hta
theorem zQE(hf:Fit p hs)(conv:Id)(to:Int):xR p conv to=gJ p conv to:=by
 unfold xR gJ;cases hv:yJ p conv with
 |none =>
  cases hd:qI p.defs conv with
  |none=>rfl
  |some d =>
   simp only;unfold yJ at hv;rw[hd]at hv;simp only at hv;split
   .rename_i h5;rw[if_pos h5]at hv;split
    .rename_i u hu;rw[hu]at hv;cases hv
    .rfl
   .rfl
 |some ab =>
  obtain⟨d,s,hd,hk5,hsl,hab⟩:=x7 hv;subst hab;simp only[hd,hk5,hsl,if_true,jCx];by_cases h3:s.typ.k=3
  .by_cases hr3:d.res.k=3
   .by_cases h0:0<=to
    .obtain⟨a,t,ha,_,hwe,he1,he2⟩:=zCv hf hd hk5 hsl h3 h0;have hpl:=zOI ha hwe he1 he2;cases hb:qI p.defs d.res.id with
     |none =>
      have:¬to<0:=by omega
      simp[zBc,hb,Dfn.zero,this]
     |some b =>
      simp only[zBc,ha,hb,Option.isSome_some,jBf,jC4,jA6,decide_eq_true_eq,h3,hr3,h0,true_and];by_cases hq:a.kind=0/\b.kind=0/\to<b.slots.length
      .rw[if_pos hq,if_pos ⟨hq.1,hq.2.1,hq.2.2⟩];exact hpl
      .rw[if_neg hq,if_neg hq]
    .rw[if_neg (by simp[h0]),if_neg (by simp[h0])]
   .rw[if_neg (by simp[hr3]),if_neg (by simp[zBc,hr3])]
  .rw[if_neg (by simp[h3]),if_neg (by simp[zBc,h3])]
theorem zLJ(hf:Fit p hs)(conv:Id)(to:Int):my 25 [.agg (zT p),.agg (zG conv),int to] [] (.sl (gJ p conv to).length (jQ (gJ p conv to))) []:=by
 have h8:=hf.len8;have:=zOU p (by omega) (fun d hd=>by have:=(hf.slots d hd).2.1;omega) conv to (fun d s hd hk hsl h3 h0=>by obtain⟨a,t,ha,h6,hwe,he1,he2⟩:=zCv hf hd hk hsl h3 h0;exact⟨zSw hwe,fun x hx=>by have:=zSx ha hwe he1 he2 x hx;omega⟩)
 rwa[zQE hf]at this
theorem zKJ(hf:Fit p hs)(conv:Id)(to:Int):(gJ p conv to).length<=1000:=by
 unfold gJ;split
 .simp
 .rename_i d hd;split
  .split
   .rename_i u hu;split
    .unfold mJ;have h1:=jCi (fun i=>eE u.id (bY d.body to) false||decide (i∈gL u.id (bY d.body to))) (bU ((qI p.defs u.typ.id).getD .zero).slots.length);have h2:((qI p.defs u.typ.id).getD .zero).slots.length<=6:=by
      cases h:qI p.defs u.typ.id with
      |none=>simp[Dfn.zero]
      |some a=>exact(hf.slots a (y6 h).1).2.1
     simp only[zL6]at h1;omega
    .simp
   .simp
  .simp
def zIZ(p:Prg)(i:Nat):wF:=⟨7,0,0⟩::(p.defs.take i).map (·.id)
@[simp]theorem qEq{i:Nat}(h:i<=p.defs.length):(zIZ p i).length=i+1:=by simp[zIZ,h]
theorem zOu{i:Nat}(h:i<p.defs.length):zP (zIZ p (i+1))=zP (zIZ p i)++zG p.defs[i].id:=by unfold zIZ;rw[jA8 h,jBl];rw[show (⟨7,0,0⟩::(List.map (·.id) (p.defs.take i)++List.map (·.id) [p.defs[i]]):wF)=(⟨7,0,0⟩::List.map (·.id) (p.defs.take i))++[p.defs[i].id] from rfl,j9];simp[zP,zG]
theorem qLj(l:wB)(which place:Int)(hl:∀x∈l,w64 x=x)(_:w64 which=which)(_:w64 place=place) :
 my 4 [.sl l.length (jQ l),int which,int place] [] (bl true) []:=by
 obtain⟨p,hs,hf,hd1,hed,rP⟩:=zL2 l hl which;have h8:=hf.len8;have hlv:=zLp;have hP:=eP p;refine mj [] [22] [] [.slot 6] func4 (by kernel_rfl) ?_
 (conv in kH _ _ _=>cbv)
 simp;refine mu rP (by simp[hP]) ?_;simp[hP];refine qM (S:=Nat) (fun i=>[(2,int place),(7,.ptr 0 0),(8,.row 1 (i+1)),(9,int i)]) (fun i=>[.box (zT p),.row false 31 3 (i+1) (zP (zIZ p i))])
  (fun i=>i<=p.defs.length) (fun i=>p.defs.length-i) 0 (by omega)
  (mw [0,1] 0 (by rfl) (by simp[hP,zIZ,zP,zG])) ?_
 intro i hi;by_cases h:i<p.defs.length
 .have hw:=z6 h (show p.defs.length<=maxLen by simp[maxLen];omega);have hd:=j6 h;have hne:¬p.defs=[]:=fun e=>by rw[e]at h;simp at h
  simp[hP,h,hd,hne,zI];intro _;refine⟨by simp[maxLen];omega,?_⟩;exact zN (i+1) h (by omega) (mw [0,1] 0 (by rfl) (by simp[hP,zOu h,zG,hw]))
 .have hie:i=p.defs.length:=by omega
  subst hie;simp[hP];intro _;obtain⟨L,hL⟩:∃L,L=zIZ p p.defs.length:=⟨_,rfl⟩;have hLn:L.length=p.defs.length+1:=by rw[hL];simp
  have hL100:L.length<=101:=by omega
  rw[<-hL,<-hLn];refine qM (S:=Nat) (fun i=>[(2,int place),(7,.ptr 0 0),(8,.sl L.length (zP L)),(10,int i)]) (fun _=>[.box (zT p)]) (fun i=>i<=L.length) (fun i=>L.length-i) 0 (by omega)
   (mw [0] 1 (by rfl) (by simp[hP])) ?_
  intro i hi;by_cases h:i<L.length
  .have hw:=z6 h (show L.length<=maxLen by simp[maxLen];omega);have hLd:=yC h;have hLne:¬L=[]:=fun e=>by rw[e]at h;simp at h
   simp[hP,h];intro _;refine qM (S:=Nat) (fun k=>[(2,int place),(7,.ptr 0 0),(8,.sl L.length (zP L)),(10,int i),(11,int k)]) (fun _=>[.box (zT p)]) (fun k=>k<=L.length) (fun k=>L.length-k) 0 (by omega)
    (mw [0] 0 (by rfl) (by simp[hP])) ?_
   intro k hk;by_cases hkl:k<L.length
   .have hwk:=z6 hkl (show L.length<=maxLen by simp[maxLen];omega);have hLk:=yC hkl;have h64:=zOG hed L[i] L[k] (jV p).length;have r1:=zAp hf L[i] L[k] h64;have r2:=zOP hf L[i] L[k] h64;have r3:=zH5 (yY p L[i] L[k]) (yY p L[i] L[k]) (by have:(yY p L[i] L[k]).length<=64:=h64;omega);have hi3:3<=L.length*3-i*3:=by omega
    have hk3:3<=L.length*3-k*3:=by omega
    unfold fZ at r1 r2;simp[hP,hkl];intro _;by_cases hst:bE p L[i]=true/\bE p L[k]=true
    .rw[if_pos hst]at r1 r2;simp[h,hkl,hLd,hLk,hLne,hi3,hk3]
     try intro _
     refine zZ r1 (by simp[hP,zG]) (by simp) ?_;simp[h,hkl,hLd,hLk,hLne,hi3,hk3]
     try intro _
     refine zZ r2 (by simp[hP,zG]) (by simp) ?_;simp;refine mu r3 (by simp) ?_;simp;exact zN (k+1) hkl (by omega) (mw [0] 0 (by rfl) (by simp[hP,hwk]))
    .rw[if_neg hst]at r1 r2;have hs0:=zH5 [] [] (by simp);simp[h,hkl,hLd,hLk,hLne,hi3,hk3]
     try intro _
     refine zZ r1 (by simp[hP,zG]) (by simp) ?_;simp[h,hkl,hLd,hLk,hLne,hi3,hk3]
     try intro _
     refine zZ r2 (by simp[hP,zG]) (by simp) ?_;simp;refine mu hs0 (by simp[jM]) ?_;simp;exact zN (k+1) hkl (by omega) (mw [0] 0 (by rfl) (by simp[hP,hwk]))
   .have hkL:k=L.length:=by omega
    subst hkL;simp[hP];intro _;have c1:=fun to=>zB4 p (fun d hd=>by have:=(hf.slots d hd).2.1;omega) L[i] to
    have c2:=fun to=>zLJ hf L[i] to
    have c3:=fun to=>zNg (gJ p L[i] to) (gJ p L[i] to) (zKJ hf L[i] to)
    have hi3:3<=L.length*3-i*3:=by omega
    obtain⟨PL,hPL⟩:∃PL:wB,PL=[place,0,1,2]:=⟨_,rfl⟩;have hP4:PL.length=4:=by rw[hPL];rfl
    refine qM (S:=Nat) (fun k=>[(2,int place),(7,.ptr 0 0),(8,.sl L.length (zP L)),(10,int i),(16,.sl PL.length (jQ PL)),(17,int k)]) (fun _=>[.box (zT p)]) (fun k=>k<=PL.length) (fun k=>PL.length-k) 0 (by omega)
     (mw [0] 0 (by rfl) (by simp[hP,hPL,jQ])) ?_
    intro k hk;by_cases hk4:k<PL.length
    .have hpd:=eI hk4;generalize PL[k]=t at hpd;have hPne:¬PL=[]:=fun e=>by rw[e]at hk4;simp at hk4
     have hwk:=yK k (by omega);simp[hP,hk4,h,hLd,hLne,hi3,hpd,hPne]
     try intros
     refine zZ (c1 t) (by simp[hP,zG]) (by simp) ?_;simp[hP,hk4,h,hLd,hLne,hi3,hpd,hPne]
     try intros
     refine zZ (c2 t) (by simp[hP,zG]) (by simp) ?_;simp;refine zZ (c3 t) (by simp) (by simp) ?_;simp;exact zN (k+1) hk4 (by omega) (mw [0] 0 (by rfl) (by simp[hP,hwk]))
    .have hkP:k=PL.length:=by omega
     subst hkP;simp[hP]
     intros
     exact zN (i+1) h (by omega) (mw [0] 0 (by rfl) (by simp[hP,hw]))
  .have hiL:i=L.length:=by omega
   subst hiL;simp[hP]
   intros
   refine mu hlv (by simp) ?_;simp;exact zA 0 (by simp)
end Go.Proofs.YtdnelmeboihpkaaGreatDoor

/- From the data that a statement reads to abstract values. -/
import Derived.Test.YtolkhapmieigcaaGreatDoorX8
set_option linter.unusedVariables false
set_option maxHeartbeats 8000000
set_option maxRecDepth 100000
set_option linter.unusedSimpArgs false
open Go.Proofs.Tryz (prog)
namespace Go.Proofs.YtolkhapmieigcaaGreatDoor
open Go.ChangeShapes Go.WideShapes Go.ChangeAt Go.RowKit Go.Abs
theorem zKI{α β:Type}{f : α->Option β}:∀{l:List α} {r:List β},l.mapM f=some r->∀x∈l,∃y,f x=some y
 |[],r,_,x,hx=>by simp at hx
 |a::l,r,h,x,hx=>by
  rw[jDi]at h;simp only[jAj,jAa,jDr]at h;obtain⟨y,h1,ys,h2,_⟩:=h;rcases jA1.1 hx with rfl|hx
  .exact⟨y,h1⟩
  .exact zKI h2 x hx
theorem zOv{α β:Type}{f : α->Option β}:∀{l:List α} {r:List β},l.mapM f=some r->r.length=l.length/\∀(i:Nat) (x : α),l[i]?=some x->∃y,r[i]?=some y/\f x=some y
 |[],r,h=>by simp at h;subst h;simp
 |a::l,r,h=>by
  rw[jDi]at h;simp only[jAj,jAa,jDr,jA3]at h;obtain⟨y,h1,ys,h2,rfl⟩:=h;obtain⟨k1,k2⟩:=zOv h2;refine⟨by simp[k1],fun i x hx=>?_⟩;cases i with
  |zero=>simp at hx;subst hx;exact⟨y,by simp,h1⟩
  |succ i=>simp at hx ⊢;exact k2 i x hx
def zA7(W:World)(hM:zC7 W):Mem:=⟨fun b o=>W.cell? ⟨b,o,none⟩,hM⟩
theorem zEo(W:World)(hM:zC7 W):RelSt (zA7 W hM) [] [] W:=⟨fun _ _ _ h=>h,rfl,fun i l o h=>by simp at h,fun i j l l' b h=>by simp at h,fun i l b h=>by simp at h⟩
section
variable{H:Type}{enc:TypeId×Value->H}{W:World}{hM:zC7 W}{sp:Nat->Bool}{hd:Bool}
theorem zRJ{a:Addr}{n:Nat}{cs:wM}(h:W.cells? 0 a n=some cs):cs.length=n/\∀i u,cs[i]?=some u->W.cell? (a.add i)=some u:=by
 unfold World.cells? at h;rw[if_pos (jB0 _)]at h;obtain⟨h1,h2⟩:=zOv h;rw[List.length_range]at h1;refine⟨h1,fun i u hu=>?_⟩;have hi:i<n:=by rw[<-h1];exact(jA5.1 hu).1
 obtain⟨y,k1,k2⟩:=h2 i i (by simp[hi]);rw[hu]at k1;rw[k2,<-jAy k1]
theorem zQ4{a:Addr}{u:Value}(h:W.cell? a=some u):a.spot=none:=by
 unfold World.cell? at h;split at h
 .split at h
  .simp at h
  .rename_i hs;simpa using hs
 .simp at h
variable{t:TypeId}{x:DataW H×List MemPlace}
theorem zVA{β:Type}{encA : β->wF}{Ok : β->Prop}{sz:Nat}{e:TypeId}(hsz:0<sz)(hlen:∀b,(encA b).length=sz)(hu:prog.underlying t=some (.slice e))(hc:prog.cellsOf e=sz)
 {n:Nat}{v:Value}(h:DataW.trod enc prog W 0 sp hd (n+1) t [v]=some x)
 (helem:∀cs y,cs.length=sz->DataW.trod enc prog W 0 sp hd n e cs=some y->∃b,qE (zA7 W hM) [] (encA b) cs/\(∀u∈cs,Go.Abs.one u)/\Ok b) :
 ∃l:List β,Rel (zA7 W hM) [] (.sl l.length (l.flatMap encA)) v/\Go.Abs.one v/\∀b∈l,Ok b:=by
 cases v with
 |slice a len cap =>
  cases a with
  |none =>
   by_cases h0:len=0/\cap=0
   .obtain⟨rfl,rfl⟩:=h0;exact⟨[],by simp only[Rel];exact⟨none,0,rfl,jA _,jB0 _,.inl ⟨rfl,rfl⟩⟩,rfl,by simp⟩
   .unfold DataW.trod at h;simp only[hu]at h;split at h<;>simp_all
  |some a =>
   unfold DataW.trod at h;simp only[hu]at h;split at h
   .rename_i hle;simp only[jAa]at h;obtain⟨elems,he,_⟩:=h;have hget:=fun i (hi:i<len)=>zKI he i (by simpa using hi)
    rw[hc]at hget;have key:∀m,m<=len->m=0\/∃b o,a=⟨b,o,none⟩/\∃(l:List β) (us:wM),l.length=m/\us.length=m*sz/\qE (zA7 W hM) [] (l.flatMap encA) us/\(∀u∈us,Go.Abs.one u)/\At (zA7 W hM) b o us/\∀b∈l,Ok b:=by
     intro m;induction m with
     |zero=>exact fun _=>.inl rfl
     |succ m ih =>
      intro hm;refine .inr ?_;obtain⟨y,hy⟩:=hget m (by omega);simp only[jAa]at hy;obtain⟨cs,hcs,hy⟩:=hy;obtain⟨k1,k2⟩:=zRJ hcs;obtain⟨bb,g1,g2,g3⟩:=helem cs y k1 hy;have c0:∃u,cs[0]?=some u:=⟨cs[0]'(by omega),by simp⟩;obtain⟨u0,hu0⟩:=c0;have hc0:=k2 0 u0 hu0;rcases ih (by omega)with rfl|⟨b,o,rfl,l,us,q1,q2,q3,q4,q5,q6⟩
      .obtain⟨b,o,s⟩:=a;have hs:=zQ4 hc0;have hs:s=none:=by simpa[Addr.add]using hs
       subst hs;refine⟨b,o,rfl,[bb],cs,rfl,by omega,by simpa using g1,g2,fun i u hu'=>?_,by simpa using g3⟩;have:=k2 i u hu';rw[show ((⟨b,o,none⟩:Addr).add (0*sz)).add i=⟨b,o+i,none⟩ by unfold Addr.add;simp;try(split<;>simp_all)]at this;exact this
      .refine⟨b,o,rfl,l++[bb],us++cs,by simp[q1],by rw[jA4,q2,k1,jBq],?_,?_,?_,?_⟩
       .rw[jCd];exact q3.append (by simpa using g1)
       .intro u hu';rcases jA6.1 hu' with hu'|hu'
        .exact q4 u hu'
        .exact g2 u hu'
       .intro i u hu';rcases jB2 i us.length with hi|hi
        .rw[jAp hi]at hu';exact q5 i u hu'
        .rw[jB9 hi]at hu';have:=k2 _ u hu';rw[show ((⟨b,o,none⟩:Addr).add (m*sz)).add (i-us.length)=⟨b,o+i,none⟩ by
          unfold Addr.add;split<;>split<;>simp_all<;>omega]at this
         exact this
       .intro z hz;rcases jA6.1 hz with hz|hz
        .exact q6 z hz
        .simp at hz;subst hz;exact g3
    rcases key len (jA _)with rfl|⟨b,o,rfl,l,us,q1,q2,q3,q4,q5,q6⟩
    .exact⟨[],by simp only[Rel];exact⟨_,cap,rfl,hle.2.1,hle.2.2,.inl ⟨rfl,rfl⟩⟩,rfl,by simp⟩
    .subst q1;exact⟨l,by simp only[Rel];exact⟨_,cap,rfl,hle.2.1,hle.2.2,.inr ⟨b,o,us,rfl,q3,q4,q5⟩⟩,rfl,q6⟩
   .simp at h
 |_ =>
  unfold DataW.trod at h;simp[hu]at h
theorem zLa{n:Nat}{c:Value}(hu:prog.underlying t=some (.int .i64))(h:DataW.trod enc prog W 0 sp hd n t [c]=some x):∃i:Int,c=.int .i64 i/\w64 i=i:=by
 cases n with
 |zero=>simp[DataW.trod]at h
 |succ n =>
  cases c with
  |int k i =>
   unfold DataW.trod at h;simp only[hu]at h;split at h
   .rename_i hh;obtain⟨rfl,hw⟩:=hh;refine⟨i,rfl,IntWalk.i64_in _ ?_⟩;simp only[Lit.wf,jA8,decide_eq_true_eq]at hw;have e1:IntKind.i64.min = -9223372036854775808:=by decide
    have e2:IntKind.i64.max=9223372036854775807:=by decide
    rw[e1,e2]at hw;omega
   .simp at h
  |_ =>
   unfold DataW.trod at h;simp[hu]at h
end
theorem zPR(l:wC):aQ l=l.flatMap fun n=>[int n]:=by
 induction l with
 |nil=>rfl
 |cons n l ih=>simp[ih]
theorem zRI:prog.cellsOf 3=1:=by kernel_rfl
section
variable{H:Type}{enc:TypeId×Value->H}{W:World}{hM:zC7 W}{base:Nat}{v:Value}{d:DataW H}{ps:List MemPlace}
theorem zB6(hval:Value.okWide prog W .any base 22 v)(h:DataW.Trod enc prog W 0 (fun _=>true) true 22 v d ps) :
 ∃l:wC,Rel (zA7 W hM) [] (.sl l.length (aQ l)) v/\∀i∈l,w64 i=i:=by
 obtain⟨a,len,cap,rfl⟩:=okWide_slice Tryz.underlying22 hval;obtain⟨n,hn⟩:=h;cases n with
 |zero=>simp[DataW.trod]at hn
 |succ n =>
  obtain⟨l,h1,_,h3⟩:=zVA (v:=.slice a len cap) (encA:=fun n=>[int n]) (Ok:=fun i=>w64 i=i) (sz:=1) (by omega) (fun _=>rfl) Tryz.underlying22 zRI hn (fun cs y hl hy=>by
   match cs,hl with
   |[c],_ =>
    obtain⟨i,rfl,hi⟩:=zLa Tryz.underlying3 hy;exact⟨i,qN (by simp[Rel]) jR,fun u hu=>by simp at hu;subst hu;rfl,hi⟩)
  exact⟨l,by rw[zPR];exact h1,h3⟩
theorem zI2(hval:Value.okWide prog W .any base 3 v)(h:DataW.Trod enc prog W 0 (fun _=>true) true 3 v d ps) :
 ∃i:Int,Rel (zA7 W hM) [] (int i) v/\w64 i=i:=by
 obtain⟨i,rfl⟩:=okWide_int Tryz.underlying3 hval;obtain⟨n,hn⟩:=h;obtain⟨j,e,hj⟩:=zLa Tryz.underlying3 hn;cases e;exact⟨i,by simp[Rel],hj⟩
end
theorem qGX:ownKnob prog.godebug=none:=by kernel_rfl
theorem oQ:laidOutB prog=true:=by kernel_rfl
theorem zR5{W W':World}{hM:zC7 W}{H':Mem}{L':wO} {U':St}(h:Nxt (zA7 W hM) [] W H' L' U' W'):Below W.heap.size W W' :=
 ⟨h.step.os,h.step.tape,h.step.output,h.step.size,fun k hk=>h.step.keep k hk (fun⟨i,l,hi,_⟩=>by simp at hi)⟩
end Go.Proofs.YtolkhapmieigcaaGreatDoor

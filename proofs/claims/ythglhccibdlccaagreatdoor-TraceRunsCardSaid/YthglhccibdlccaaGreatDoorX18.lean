/-
  From the data that a statement reads to abstract values.
-/
import Derived.Test.YthglhccibdlccaaGreatDoorX17
import Derived.Test.YthglhccibdlccaaGreatDoorX3
import Derived.ProofKit
import Derived.OpenShut
set_option linter.unusedVariables false
set_option linter.unusedSimpArgs false
namespace Go.Proofs.YthglhccibdlccaaGreatDoor
open Go.ChangeShapes Go.WideShapes Go.ChangeAt Go.RowKit Go.Abs
theorem zOm {α β : Type}{f : α→Option β}:∀{l:List α} {r:List β},l.mapM f=some r→∀x∈l,∃y,f x=some y
 | [],r,_,x,hx=>by simp at hx
 | a::l,r,h,x,hx=>by
  rw[List.mapM_cons]at h;simp only[Option.bind_eq_bind,Option.bind_eq_some_iff,Option.pure_def]at h;obtain⟨y,h1,ys,h2,_⟩:=h;rcases List.mem_cons.1 hx with rfl | hx
  ·exact⟨y,h1⟩
  ·exact zOm h2 x hx
theorem zRm {α β : Type}{f : α→Option β}:∀{l:List α} {r:List β},l.mapM f=some r→r.length=l.length∧∀(i:Nat) (x : α),l[i]?=some x→∃y,r[i]?=some y∧f x=some y
 | [],r,h=>by simp at h; subst h; simp
 | a::l,r,h=>by
  rw[List.mapM_cons]at h;simp only[Option.bind_eq_bind,Option.bind_eq_some_iff,Option.pure_def,Option.some.injEq]at h;obtain⟨y,h1,ys,h2,rfl⟩:=h;obtain⟨k1,k2⟩:=zRm h2;refine⟨by simp[k1],fun i x hx=>?_⟩;cases i with
  | zero=>simp at hx; subst hx; exact⟨y,by simp,h1⟩
  | succ i=>simp at hx ⊢; exact k2 i x hx
def zH7 (W:World)(hM:zHU W):Mem:=⟨fun b o=>W.cell? ⟨b,o,none⟩,hM⟩
theorem zOC (W:World)(hM:zHU W):RelSt (zH7 W hM) [] [] W:=⟨fun _ _ _ h=>h,rfl,fun i l o h=>by simp at h,fun i j l l' b h=>by simp at h,fun i l b h=>by simp at h⟩
section
variable {H:Type}{enc:TypeId×Value→H}{W:World}{hM:zHU W}{sp:Nat→Bool}{hd:Bool}
theorem zUp {a:Addr}{n:Nat}{cs:List Value}(h:W.cells? 0 a n=some cs):cs.length=n∧∀i u,cs[i]?=some u→W.cell? (a.add i)=some u:=by
 unfold World.cells? at h;rw[if_pos (Nat.zero_le _)]at h;obtain⟨h1,h2⟩:=zRm h;rw[List.length_range]at h1;refine⟨h1,fun i u hu=>?_⟩;have hi:i<n:=by rw[←h1]; exact(List.getElem?_eq_some_iff.1 hu).1
 obtain⟨y,k1,k2⟩:=h2 i i (by simp[hi]);rw[hu]at k1;rw[k2,←Option.some.inj k1]
theorem zST {a:Addr}{u:Value}(h:W.cell? a=some u):a.spot=none:=by
 unfold World.cell? at h;split at h
 ·split at h
  ·simp at h
  ·rename_i hs; simpa using hs
 ·simp at h
theorem zYf {β : Type}{encA : β→List A}{Ok : β→Prop}{sz:Nat}{t e:TypeId}(hsz:0<sz)(hlen:∀b,(encA b).length=sz)(hu:Tryz.prog.underlying t=some (.slice e))(hc:Tryz.prog.cellsOf e=sz)
 {n:Nat}{v:Value}{x:DataW H×List MemPlace}(h:DataW.trod enc Tryz.prog W 0 sp hd (n+1) t [v]=some x)
 (helem:∀cs y,cs.length=sz→DataW.trod enc Tryz.prog W 0 sp hd n e cs=some y→∃b,zX (zH7 W hM) [] (encA b) cs∧(∀u∈cs,one u)∧Ok b) :
 ∃l:List β,Rel (zH7 W hM) [] (.sl l.length (l.flatMap encA)) v∧one v∧∀b∈l,Ok b:=by
 cases v with
 | slice a len cap =>
  cases a with
  | none =>
   by_cases h0:len=0∧cap=0
   ·obtain⟨rfl,rfl⟩:=h0;exact⟨[],by simp only[Rel]; exact⟨none,0,rfl,Nat.le_refl _,Nat.zero_le _,.inl ⟨rfl,rfl⟩⟩,rfl,by simp⟩
   ·unfold DataW.trod at h;simp only[hu]at h;split at h<;>simp_all
  | some a =>
   unfold DataW.trod at h;simp only[hu]at h;split at h
   ·rename_i hle;simp only[Option.bind_eq_some_iff]at h;obtain⟨elems,he,_⟩:=h;have hget:=fun i (hi:i<len)=>zOm he i (by simpa using hi)
    rw[hc]at hget;have key:∀m,m≤len→m=0∨∃b o,a=⟨b,o,none⟩∧∃(l:List β) (us:List Value),l.length=m∧us.length=m*sz∧zX (zH7 W hM) [] (l.flatMap encA) us∧(∀u∈us,one u)∧At (zH7 W hM) b o us∧∀b∈l,Ok b:=by
     intro m;induction m with
     | zero=>exact fun _=>.inl rfl
     | succ m ih =>
      intro hm;refine .inr ?_;obtain⟨y,hy⟩:=hget m (by omega);simp only[Option.bind_eq_some_iff]at hy;obtain⟨cs,hcs,hy⟩:=hy;obtain⟨k1,k2⟩:=zUp hcs;obtain⟨bb,g1,g2,g3⟩:=helem cs y k1 hy;have c0:∃u,cs[0]?=some u:=⟨cs[0]'(by omega),by simp⟩;obtain⟨u0,hu0⟩:=c0;have hc0:=k2 0 u0 hu0;rcases ih (by omega)with rfl | ⟨b,o,rfl,l,us,q1,q2,q3,q4,q5,q6⟩
      ·obtain⟨b,o,s⟩:=a;have hs:=zST hc0;have hs:s=none:=by simpa [Addr.add] using hs
       subst hs;refine⟨b,o,rfl,[bb],cs,rfl,by omega,by simpa using g1,g2,fun i u hu'=>?_,by simpa using g3⟩;have:=k2 i u hu';rw[show ((⟨b,o,none⟩:Addr).add (0*sz)).add i=⟨b,o+i,none⟩ by unfold Addr.add; simp; try (split<;>simp_all)]at this;exact this
      ·refine⟨b,o,rfl,l++[bb],us++cs,by simp[q1],by rw[List.length_append,q2,k1,Nat.succ_mul],?_,?_,?_,?_⟩
       ·rw[List.flatMap_append];exact q3.append (by simpa using g1)
       ·intro u hu';rcases List.mem_append.1 hu' with hu' | hu'
        ·exact q4 u hu'
        ·exact g2 u hu'
       ·intro i u hu';rcases Nat.lt_or_ge i us.length with hi | hi
        ·rw[List.getElem?_append_left hi]at hu';exact q5 i u hu'
        ·rw[List.getElem?_append_right hi]at hu';have:=k2 _ u hu';rw[show ((⟨b,o,none⟩:Addr).add (m*sz)).add (i-us.length)=⟨b,o+i,none⟩ by
          unfold Addr.add;split<;>split<;>simp_all<;>omega]at this
         exact this
       ·intro z hz;rcases List.mem_append.1 hz with hz | hz
        ·exact q6 z hz
        ·simp at hz; subst hz; exact g3
    rcases key len (Nat.le_refl _)with rfl | ⟨b,o,rfl,l,us,q1,q2,q3,q4,q5,q6⟩
    ·exact⟨[],by simp only[Rel]; exact⟨_,cap,rfl,hle.2.1,hle.2.2,.inl ⟨rfl,rfl⟩⟩,rfl,by simp⟩
    ·subst q1;exact⟨l,by simp only[Rel]; exact⟨_,cap,rfl,hle.2.1,hle.2.2,.inr ⟨b,o,us,rfl,q3,q4,q5⟩⟩,rfl,q6⟩
   ·simp at h
 | _ =>
  unfold DataW.trod at h;simp[hu]at h
theorem zO2 {n:Nat}{t:TypeId}{c:Value}{x:DataW H×List MemPlace}(hu:Tryz.prog.underlying t=some (.int .i64))(h:DataW.trod enc Tryz.prog W 0 sp hd n t [c]=some x):∃i:Int,c=.int .i64 i∧w64 i=i:=by
 cases n with
 | zero=>simp[DataW.trod]at h
 | succ n =>
  cases c with
  | int k i =>
   unfold DataW.trod at h;simp only[hu]at h;split at h
   ·rename_i hh;obtain⟨rfl,hw⟩:=hh;refine⟨i,rfl,IntWalk.i64_in _ ?_⟩;simp only[Lit.wf,Bool.and_eq_true,decide_eq_true_eq]at hw;have e1:IntKind.i64.min = -9223372036854775808:=by decide
    have e2:IntKind.i64.max=9223372036854775807:=by decide
    rw[e1,e2]at hw;omega
   ·simp at h
  | _ =>
   unfold DataW.trod at h;simp[hu]at h
end
theorem zS6 (l:List Int):yF l=l.flatMap fun n=>[int n]:=by
 induction l with
 | nil=>rfl
 | cons n l ih=>simp[ih]
theorem zUo:Tryz.prog.cellsOf 3=1:=by kernel_rfl
section
variable {H:Type}{enc:TypeId×Value→H}{W:World}{hM:zHU W}{base:Nat}{v:Value}{d:DataW H}{ps:List MemPlace}
set_option maxRecDepth 100000 in
theorem zNv (hval:Value.okWide Tryz.prog W .any base 22 v)(h:DataW.Trod enc Tryz.prog W 0 (fun _=>true) true 22 v d ps) :
 ∃l:List Int,Rel (zH7 W hM) [] (.sl l.length (yF l)) v∧∀i∈l,w64 i=i:=by
 obtain⟨a,len,cap,rfl⟩:=okWide_slice Tryz.underlying22 hval;obtain⟨n,hn⟩:=h;cases n with
 | zero=>simp[DataW.trod]at hn
 | succ n =>
  obtain⟨l,h1,_,h3⟩:=zYf (v:=.slice a len cap) (encA:=fun n=>[int n]) (Ok:=fun i=>w64 i=i) (sz:=1) (by omega) (fun _=>rfl) Tryz.underlying22 zUo hn (fun cs y hl hy=>by
   match cs,hl with
   | [c],_ =>
    obtain⟨i,rfl,hi⟩:=zO2 Tryz.underlying3 hy;exact⟨i,qS (by simp[Rel]) jP,fun u hu=>by simp at hu; subst hu; rfl,hi⟩)
  exact⟨l,by rw[zS6]; exact h1,h3⟩
set_option maxRecDepth 100000 in
theorem zQL (hval:Value.okWide Tryz.prog W .any base 3 v)(h:DataW.Trod enc Tryz.prog W 0 (fun _=>true) true 3 v d ps) :
 ∃i:Int,Rel (zH7 W hM) [] (int i) v∧w64 i=i:=by
 obtain⟨i,rfl⟩:=okWide_int Tryz.underlying3 hval;obtain⟨n,hn⟩:=h;obtain⟨j,e,hj⟩:=zO2 Tryz.underlying3 hn;cases e;exact⟨i,by simp[Rel],hj⟩
end
theorem qOH:ownKnob Tryz.prog.godebug=none:=by kernel_rfl
theorem zH4:laidOutB Tryz.prog=true:=by kernel_rfl
theorem qAA {W W':World}{hM:zHU W}{H':Mem}{L':List LI} {σ':St}(h:Nxt (zH7 W hM) [] W H' L' σ' W'):Below W.heap.size W W' :=
 ⟨h.step.os,h.step.tape,h.step.output,h.step.size,fun k hk=>h.step.keep k hk (fun⟨i,l,hi,_⟩=>by simp at hi)⟩
end Go.Proofs.YthglhccibdlccaaGreatDoor

/- What is proved: for every input, TouchOwn returns true, and its arguments read behind the  -/
import Derived.Test.YtolkhapmieigcaaGreatDoorX22
import Derived.Test.YtolkhapmieigcaaGreatDoorX9
import Derived.Test.YtolkhapmieigcaaGreatDoorTie
import Derived.Test.YtolkhapmieigcaaGreatDoorCards
import Derived.SevenTiedAt
set_option linter.unusedVariables false
set_option maxHeartbeats 8000000
set_option maxRecDepth 100000
set_option linter.unusedSimpArgs false
namespace Go.Proofs.YtolkhapmieigcaaGreatDoor
open Go Go.ChangeShapes Go.WideShapes Go.ChangeAt Go.RowKit Go.Abs
theorem zFo(os:Os)(args:Array Value):laidMetH Tryz.prog zCa ((World.doorLaid Tryz.prog 200 os).forCall (fun _ _=>0) ⟨#[],args,[]⟩).memory :=
 laidMetH_of_parts3 (fuel:=8) (laidMet_of_run' 8 (by kernel_rfl) (by kernel_rfl)) (by kernel_rfl) (by kernel_rfl)
theorem zBm(os:Os)(started:os.Started)(H:Type)(enc:TypeId×Value->H) :
 ReturnsInHanded {} Tryz.checked os 8 .any (fun w args=>(Rows.touchOwnSpec.pre enc Tryz.prog Tryz.f8 [] false w args/\laidMetH Tryz.prog zCa w)/\sizedMet enc Tryz.prog Tryz.f8 (OpenSpec.ofChange Rows.touchOwnSpec) false w args)
  (Rows.touchOwnSpec.post enc Tryz.prog Tryz.f8 false true false false):=by
 refine returnsInHanded_of_change_and (C:=Tryz.checked) (X:=fun w _=>laidMetH Tryz.prog zCa w) (fun _ _ _ hh h=>h.of_heap hh) qGX started (by kernel_rfl) Tryz.func8
  (ChangeSpec.witness_shaped (enc:=enc) (C:=Tryz.checked) (os:=os) (X:=fun w _=>laidMetH Tryz.prog zCa w) false (World.doorLaid Tryz.prog 200 os) #[.slice none 0 0,.int .i64 0,.int .i64 0] 8 rfl (World.shaped_of_RefB (by kernel_rfl) (by kernel_rfl)) (by kernel_rfl) (by kernel_rfl) (by kernel_rfl) (zFo os _)) ?_
 intro W base args ds gs before hval0 hW _ _ hL _;have hval:∀(j:Nat) t v,Tryz.f8.params[j]?=some t->args[j]?=some v->Value.okWide Tryz.prog W .any base t v:=hval0;have hW':=hW;obtain⟨p,q,hA0,hV,rfl,hfz,hnd⟩:=hW;have hA:DataW.TrodAll enc Tryz.prog W 0 (fun _=>true) true Tryz.f8.params.toList args.toList ds p:=hA0;have params0:Tryz.f8.params = #[22,3,3]:=by kernel_rfl
 rw[params0]at hA hval;obtain⟨v0,vs0,d0,ds0,p0,q0,hargs,rfl,rfl,h0,r0⟩:=trodAll_cons hA;obtain⟨v1,vs1,d1,ds1,p1,q1,rfl,rfl,rfl,h1,r1⟩:=trodAll_cons r0;obtain⟨v2,vs2,d2,ds2,p2,q2,rfl,rfl,rfl,h2,r2⟩:=trodAll_cons r1;obtain⟨rfl,rfl,rfl⟩:=trodAll_nil r2;obtain rfl:args = #[v0,v1,v2]:=by cases args;simp_all
 obtain⟨rfl,rfl⟩:=trodVars_none hV;obtain⟨x0,e0,o0⟩:=zB6 (hM:=iY hL) (hval 0 22 v0 rfl rfl) h0;obtain⟨x1,e1,o1⟩:=zI2 (hM:=iY hL) (hval 1 3 v1 rfl rfl) h1;obtain⟨x2,e2,o2⟩:=zI2 (hM:=iY hL) (hval 2 3 v2 rfl rfl) h2;simp only[jAt]at hW';refine(qGh x0 x1 x2 o0 o1 o2 (zA7 W (iY hL)) [] W [v0,v1,v2] (zEo W (iY hL)) (qN e0 (qN e1 (qN e2 jR)))).mono fun e W' hh=>?_
 obtain⟨o,U',H',L',ho,hn,rfl,rfl⟩:=hh;obtain⟨v,rfl,hv⟩:=ho;have hv:v=.bool true:=hv;subst hv;have hB:=zR5 hn;have hlt:∀x,(x∈p0\/x∈p1\/x∈p2)->x.block<W.heap.size:=fun x hx=>hW'.lt x (by simpa using hx)
 refine⟨_,rfl,[d0,d1,d2],[],_,[],p0++(p1++(p2++[])),[],hW',trodAll_mk1 (shut_bool Tryz.underlying4 _),?_,rfl,hB.frame _,fun hh=>by cases hh⟩;exact trodAll_cons_mk (Below.trod oQ (by kernel_rfl) (of_decide_eq_true (by kernel_rfl)) h0 hB (fun x hx=>hlt x (.inl hx)))
  (trodAll_cons_mk (Below.trod oQ (by kernel_rfl) (of_decide_eq_true (by kernel_rfl)) h1 hB (fun x hx=>hlt x (.inr (.inl hx))))
  (trodAll_cons_mk (Below.trod oQ (by kernel_rfl) (of_decide_eq_true (by kernel_rfl)) h2 hB (fun x hx=>hlt x (.inr (.inr hx))))
  trodAll_mk0))
theorem zGp:Rows.TouchOwnSaid :=
 OpenClaim.holds_of_wide 8 Tryz.f8 rfl rfl rfl rfl rfl rfl rfl ⟨rfl,rfl,rfl,rfl,rfl⟩ rfl rfl rfl rfl rfl (by kernel_rfl) Tryz.func8 (by kernel_rfl)
  (of_decide_eq_true (by kernel_rfl)) (by unfold Func.isWrapper;first|(rw[if_pos (by decide +kernel)];kernel_rfl)|(rw[if_neg (by decide +kernel)];exact⟨rfl,rfl⟩))
  (fun os started H enc _=>zBm os started H enc)
theorem touchOwn_holds:Rows.TouchOwnCardSaid :=
 Claim7.holds_tied_plain_at .later [] [.funcs] true _ true
  zGp (fun _ h=>by cases h) (by kernel_rfl) (fun _ h=>by cases h) touchOwn_row_tie rfl ⟨rfl,rfl⟩ (by kernel_rfl) rfl
  (fun f fn hf hfn=>by
   obtain rfl:f=8:=jAy ((show Tryz.prog.funcNamed "splicery/splicerylaw24.TouchOwn" = some 8 by kernel_rfl).symm.trans hf)|>.symm;obtain rfl:fn=Tryz.f8:=(jAy (Tryz.func8.symm.trans hfn)).symm;have params0:Tryz.f8.params = #[22,3,3]:=by kernel_rfl
   exact⟨by kernel_rfl,fun j t ht=>by
    rw[params0]at ht;have hm:t∈[22,3,3]:=by simpa using Array.mem_of_getElem? ht
    have hall:([22,3,3].all fun u=>!Tryz.prog.wantsStandIn u)=true:=by kernel_rfl
    exact(show Tryz.prog.wantsStandIn t=false by simpa using jB3.1 hall t hm)⟩)
  (by kernel_rfl)
#print axioms touchOwn_holds
end Go.Proofs.YtolkhapmieigcaaGreatDoor

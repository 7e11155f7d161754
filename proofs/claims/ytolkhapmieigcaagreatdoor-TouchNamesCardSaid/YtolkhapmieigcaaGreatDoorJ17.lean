/- What is proved: for every input, TouchNames returns true, and its arguments read behind th -/
import Derived.Test.YtolkhapmieigcaaGreatDoorX22
import Derived.Test.YtolkhapmieigcaaGreatDoorX9
import Derived.Test.YtolkhapmieigcaaGreatDoorTie
import Derived.Test.YtolkhapmieigcaaGreatDoorCards
import Derived.SevenTiedAt
set_option linter.unusedVariables false
set_option maxHeartbeats 8000000
set_option maxRecDepth 100000
set_option linter.unusedSimpArgs false
namespace Go.Proofs.YtolkhapmieigcaaGreatDoor
open Go Go.ChangeShapes Go.WideShapes Go.ChangeAt Go.RowKit Go.Abs
theorem zDL(os:Os)(args:Array Value):laidMetH Tryz.prog zAU ((World.doorLaid Tryz.prog 200 os).forCall (fun _ _=>0) ⟨#[],args,[]⟩).memory :=
 laidMetH_of_parts3 (fuel:=8) (laidMet_of_run' 8 (by kernel_rfl) (by kernel_rfl)) (by kernel_rfl) (by kernel_rfl)
theorem zAh(os:Os)(started:os.Started)(H:Type)(enc:TypeId×Value->H) :
 ReturnsInHanded {} Tryz.checked os 7 .any (fun w args=>(Rows.touchNamesSpec.pre enc Tryz.prog Tryz.f7 [] false w args/\laidMetH Tryz.prog zAU w)/\sizedMet enc Tryz.prog Tryz.f7 (OpenSpec.ofChange Rows.touchNamesSpec) false w args)
  (Rows.touchNamesSpec.post enc Tryz.prog Tryz.f7 false true false false):=by
 refine returnsInHanded_of_change_and (C:=Tryz.checked) (X:=fun w _=>laidMetH Tryz.prog zAU w) (fun _ _ _ hh h=>h.of_heap hh) qEi started (by kernel_rfl) Tryz.func7
  (ChangeSpec.witness_shaped (enc:=enc) (C:=Tryz.checked) (os:=os) (X:=fun w _=>laidMetH Tryz.prog zAU w) false (World.doorLaid Tryz.prog 200 os) #[.slice none 0 0,.slice none 0 0] 8 rfl (World.shaped_of_RefB (by kernel_rfl) (by kernel_rfl)) (by kernel_rfl) (by kernel_rfl) (by kernel_rfl) (zDL os _)) ?_
 intro W base args ds gs before hval0 hW _ _ hL _;have hval:∀(j:Nat) t v,Tryz.f7.params[j]?=some t->args[j]?=some v->Value.okWide Tryz.prog W .any base t v:=hval0;have hW':=hW;obtain⟨p,q,hA0,hV,rfl,hfz,hnd⟩:=hW;have hA:DataW.TrodAll enc Tryz.prog W 0 (fun _=>true) true Tryz.f7.params.toList args.toList ds p:=hA0;have params0:Tryz.f7.params = #[22,22]:=by kernel_rfl
 rw[params0]at hA hval;obtain⟨v0,vs0,d0,ds0,p0,q0,hargs,rfl,rfl,h0,r0⟩:=trodAll_cons hA;obtain⟨v1,vs1,d1,ds1,p1,q1,rfl,rfl,rfl,h1,r1⟩:=trodAll_cons r0;obtain⟨rfl,rfl,rfl⟩:=trodAll_nil r1;obtain rfl:args = #[v0,v1]:=by cases args;simp_all
 obtain⟨rfl,rfl⟩:=trodVars_none hV;obtain⟨x0,e0,o0⟩:=sO (hM:=i5 hL) (hval 0 22 v0 rfl rfl) h0;obtain⟨x1,e1,o1⟩:=sO (hM:=i5 hL) (hval 1 22 v1 rfl rfl) h1;simp only[jAs]at hW';refine(qDt x0 x1 o0 o1 (vW W (i5 hL)) [] W [v0,v1] (zCU W (i5 hL)) (qF e0 (qF e1 jF))).mono fun e W' hh=>?_
 obtain⟨o,U',H',L',ho,hn,rfl,rfl⟩:=hh;obtain⟨v,rfl,hv⟩:=ho;have hv:v=.bool true:=hv;subst hv;have hB:=zPT hn;have hlt:∀x,(x∈p0\/x∈p1)->x.block<W.heap.size:=fun x hx=>hW'.lt x (by simpa using hx)
 refine⟨_,rfl,[d0,d1],[],_,[],p0++(p1++[]),[],hW',trodAll_mk1 (shut_bool Tryz.underlying4 _),?_,rfl,hB.frame _,fun hh=>by cases hh⟩;exact trodAll_cons_mk (Below.trod oX (by kernel_rfl) (of_decide_eq_true (by kernel_rfl)) h0 hB (fun x hx=>hlt x (.inl hx)))
  (trodAll_cons_mk (Below.trod oX (by kernel_rfl) (of_decide_eq_true (by kernel_rfl)) h1 hB (fun x hx=>hlt x (.inr hx)))
  trodAll_mk0)
theorem zEK:Rows.TouchNamesSaid :=
 OpenClaim.holds_of_wide 7 Tryz.f7 rfl rfl rfl rfl rfl rfl rfl ⟨rfl,rfl,rfl,rfl,rfl⟩ rfl rfl rfl rfl rfl (by kernel_rfl) Tryz.func7 (by kernel_rfl)
  (of_decide_eq_true (by kernel_rfl)) (by unfold Func.isWrapper;first|(rw[if_pos (by decide +kernel)];kernel_rfl)|(rw[if_neg (by decide +kernel)];exact⟨rfl,rfl⟩))
  (fun os started H enc _=>zAh os started H enc)
theorem touchNames_holds:Rows.TouchNamesCardSaid :=
 Claim7.holds_tied_plain_at .later [] [.funcs] true _ true
  zEK (fun _ h=>by cases h) (by kernel_rfl) (fun _ h=>by cases h) touchNames_row_tie rfl ⟨rfl,rfl⟩ (by kernel_rfl) rfl
  (fun f fn hf hfn=>by
   obtain rfl:f=7:=jAw ((show Tryz.prog.funcNamed "splicery/splicerylaw24.TouchNames" = some 7 by kernel_rfl).symm.trans hf)|>.symm;obtain rfl:fn=Tryz.f7:=(jAw (Tryz.func7.symm.trans hfn)).symm;have params0:Tryz.f7.params = #[22,22]:=by kernel_rfl
   exact⟨by kernel_rfl,fun j t ht=>by
    rw[params0]at ht;have hm:t∈[22,22]:=by simpa using Array.mem_of_getElem? ht
    have hall:([22,22].all fun u=>!Tryz.prog.wantsStandIn u)=true:=by kernel_rfl
    exact(show Tryz.prog.wantsStandIn t=false by simpa using jB0.1 hall t hm)⟩)
  (by kernel_rfl)
#print axioms touchNames_holds
end Go.Proofs.YtolkhapmieigcaaGreatDoor

/-
  FactsFirstMatchesReference: the given statement.
-/
import Derived.Test.YtcemhghkipgdiaaGreatDoorAk
import Derived.Test.YtcemhghkipgdiaaGreatDoorDt
namespace Go.Proofs.YtcemhghkipgdiaaGreatDoor.Lfn
open Go Go.ChangeShapes Go.WideShapes Go.ChangeAt Go.RowKit Go.Deep Go.Proofs.Tryz
set_option maxRecDepth 100000 in
theorem NW (os:Os) (started:os.Started) (H:Type) (enc:TypeId×Value->H):
  ReturnsInHanded {} Tryz.checked os 4 .any (λw args=>(Rows.factsFirstMatchesReferenceSpec.pre enc Tryz.prog Tryz.f4 Rows.factsFirstMatchesReferenceRow.domain false w args/\laidMetH Tryz.prog sc w)/\sizedMet enc Tryz.prog Tryz.f4 (OpenSpec.ofChange Rows.factsFirstMatchesReferenceSpec) false w args)
   (Rows.factsFirstMatchesReferenceSpec.post enc Tryz.prog Tryz.f4 false true false false):=by
 refine returnsInHanded_of_change_and (C:=Tryz.checked) (X:=λw _=>laidMetH Tryz.prog sc w) (λ_ _ _ hh h=>h.of_heap hh) T2 started (by kernel_rfl) Tryz.func4
  (ChangeSpec.witness_shaped (enc:=enc) (C:=Tryz.checked) (os:=os) (X:=λw _=>laidMetH Tryz.prog sc w) false (World.laidAll Tryz.prog os sc) #[.agg #[.int .u8 0,.int .u8 0,.slice Option.none 0 0,.slice Option.none 0 0,.slice Option.none 0 0],.slice Option.none 0 0] 8 (World.laidAll_os _ _ _)
   (World.shaped_of_ZipB (by kernel_rfl) (by kernel_rfl)) (by kernel_rfl) (by kernel_rfl) (by kernel_rfl) (Hk os _)) ?_
 intro W YZ args ds gs before hval0 hW _ hsz0 hL _;have hval:∀(j:Nat) t v,Tryz.f4.params[j]? =some t->args[j]? =some v->Value.okWide Tryz.prog W .any YZ t v:=hval0;have hsz:(DataW.weightsEach Tryz.prog (Tryz.f4.params.toList++[]) (ds++gs)).all (·<=reachBytes)=true:=hsz0;have hW':=hW;obtain ⟨p,q,hA0,hV,rfl,_,_⟩:=hW;have hA:DataW.TrodAll enc Tryz.prog W 0 (λ_=>true) true Tryz.f4.params.toList args.toList ds p:=hA0;rw [Tryz.params4] at hA hval hsz;obtain ⟨rfl,rfl⟩:=trodVars_none hV;obtain ⟨v0,v1,d0,d1,p0,p1,rfl,rfl,rfl,h0,h1⟩:=trodAll_two hA;obtain ⟨cs0,rfl,_⟩:=okWide_struct Tryz.underlying26 (hval 0 26 v0 rfl rfl);obtain ⟨b1,l1,c1,rfl⟩:=okWide_slice Tryz.underlying23 (hval 1 23 v1 rfl rfl);obtain ⟨fuel0,hf0⟩:=h0;have hw0:(d0.weights Tryz.prog 26).all (·<=reachBytes)=true:=by rw [List.all_eq_true] at hsz ⊢;exact λy hy=>hsz y (DataW.weights_mem_each (j:=0) rfl rfl y hy)
 obtain ⟨x0,hr0⟩:=EX (cs:=cs0) hf0 hw0;obtain ⟨fuel1,hf1⟩:=h1;have hw1:(d1.weights Tryz.prog 23).all (·<=reachBytes)=true:=by rw [List.all_eq_true] at hsz ⊢;exact λy hy=>hsz y (DataW.weights_mem_each (j:=1) rfl rfl y hy)
 obtain ⟨sl1,ls1,hv1,hr1⟩:=y8 (c:=.slice b1 l1 c1) hf1 hw1;rw [hv1] at hW' ⊢;refine (tD (tE (yg hL) hr0 hr1)).mono ?_;rintro e W' ⟨rfl,hb⟩;exact ⟨_,rfl,Em J9 rfl hW' (by kernel_rfl) rfl Tryz.underlying4 hb rfl⟩
theorem Vc:Rows.FactsFirstMatchesReferenceSaid:=
 OpenClaim.holds_of_wide 4 Tryz.f4 rfl rfl rfl rfl rfl rfl rfl ⟨rfl,rfl,rfl,rfl,rfl⟩ rfl rfl rfl rfl rfl (by kernel_rfl) Tryz.func4 (by kernel_rfl)
  (of_decide_eq_true (by kernel_rfl)) (by unfold Func.isWrapper;first|(rw [if_pos (by decide+kernel)];kernel_rfl)|(rw [if_neg (by decide+kernel)];exact ⟨rfl,rfl⟩))
  (λos started H enc _=>NW os started H enc)
theorem holds:Rows.FactsFirstMatchesReferenceCardSaid:=
 Claim7.holds_tied_plain_at .later [] [.data] true (true,"4ffb3938bcd1adf7ebfffc8631b70f6a38b5d1a5f20b426475762a3381ec5eb5") true
  Vc (λ_ h=>by cases h) (by kernel_rfl) (λ_ h=>by cases h) factsFirstMatchesReference_row_tie rfl ⟨rfl,rfl⟩ (by kernel_rfl) rfl
  (λf fn hf hfn=>by
   obtain rfl:f=4:=Option.some.inj ((show Tryz.prog.funcNamed "koine/koinelaw06.FactsFirstMatchesReference"=some 4 by kernel_rfl).symm.trans hf) |>.symm;obtain rfl:fn=Tryz.f4:=(Option.some.inj (Tryz.func4.symm.trans hfn)).symm
   exact ⟨by kernel_rfl,λj t ht=>by
    rw [Tryz.params4] at ht;have hm:t∈[26,23]:=by simpa using Array.mem_of_getElem? ht
    have hall:([26,23].all λu=> !Tryz.prog.wantsStandIn u)=true:=by kernel_rfl
    exact (show Tryz.prog.wantsStandIn t=false by simpa using List.all_eq_true.1 hall t hm)⟩)
  (by kernel_rfl)
#print axioms holds
end Go.Proofs.YtcemhghkipgdiaaGreatDoor.Lfn

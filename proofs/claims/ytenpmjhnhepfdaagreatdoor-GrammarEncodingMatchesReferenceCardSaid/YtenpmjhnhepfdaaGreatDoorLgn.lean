/-
  GrammarEncodingMatchesReference: the given statement.
-/
import Derived.Test.YtenpmjhnhepfdaaGreatDoorTopk
import Derived.Test.YtenpmjhnhepfdaaGreatDoorNj
namespace Go.Proofs.YtenpmjhnhepfdaaGreatDoor.Lgn
open Go Go.ChangeShapes Go.WideShapes Go.ChangeAt Go.RowKit Go.Deep Go.Proofs.Tryz
set_option maxRecDepth 100000 in
theorem Oq (os:Os) (started:os.Started) (H:Type) (enc:TypeId×Value->H):
  ReturnsInHanded {} Tryz.checked os 3 .any (λw args=>(Rows.grammarEncodingMatchesReferenceSpec.pre enc Tryz.prog Tryz.f3 Rows.grammarEncodingMatchesReferenceRow.domain false w args/\laidMetH Tryz.prog rF w)/\sizedMet enc Tryz.prog Tryz.f3 (OpenSpec.ofChange Rows.grammarEncodingMatchesReferenceSpec) false w args)
   (Rows.grammarEncodingMatchesReferenceSpec.post enc Tryz.prog Tryz.f3 false true false false):=by
 refine returnsInHanded_of_change_and (C:=Tryz.checked) (X:=λw _=>laidMetH Tryz.prog rF w) (λ_ _ _ hh h=>h.of_heap hh) S9 started (by kernel_rfl) Tryz.func3
  (ChangeSpec.witness_shaped (enc:=enc) (C:=Tryz.checked) (os:=os) (X:=λw _=>laidMetH Tryz.prog rF w) false (World.laidAll Tryz.prog os rF) #[.agg #[.int .u8 0,.int .u8 0,.slice Option.none 0 0,.slice Option.none 0 0,.slice Option.none 0 0],.agg #[.int .u8 0,.int .u8 0,.int .i64 0],.slice Option.none 0 0] 8 (World.laidAll_os _ _ _)
   (World.shaped_of_ZipB (by kernel_rfl) (by kernel_rfl)) (by kernel_rfl) (by kernel_rfl) (by kernel_rfl) (HN os _)) ?_
 intro W base args ds gs before hval0 hW _ hsz0 hL _;have hval:∀(j:Nat) t v,Tryz.f3.params[j]? =some t->args[j]? =some v->Value.okWide Tryz.prog W .any base t v:=hval0;have hsz:(DataW.weightsEach Tryz.prog (Tryz.f3.params.toList++[]) (ds++gs)).all (·<=reachBytes)=true:=hsz0;have hW':=hW;obtain ⟨p,q,hA0,hV,rfl,_,_⟩:=hW;have hA:DataW.TrodAll enc Tryz.prog W 0 (λ_=>true) true Tryz.f3.params.toList args.toList ds p:=hA0;rw [Tryz.params3] at hA hval hsz;obtain ⟨rfl,rfl⟩:=trodVars_none hV;obtain ⟨v0,v1,v2,d0,d1,d2,p0,p1,p2,rfl,rfl,rfl,h0,h1,h2⟩:=trodAll_three hA;obtain ⟨cs0,rfl,_⟩:=okWide_struct Tryz.underlying26 (hval 0 26 v0 rfl rfl);obtain ⟨cs1,rfl,_⟩:=okWide_struct Tryz.underlying28 (hval 1 28 v1 rfl rfl);obtain ⟨b2,l2,c2,rfl⟩:=okWide_slice Tryz.underlying22 (hval 2 22 v2 rfl rfl);obtain ⟨fuel0,hf0⟩:=h0;have hw0:(d0.weights Tryz.prog 26).all (·<=reachBytes)=true:=by rw [List.all_eq_true] at hsz ⊢;exact λy hy=>hsz y (DataW.weights_mem_each (j:=0) rfl rfl y hy)
 obtain ⟨x0,hr0⟩:=EO (cs:=cs0) hf0 hw0;obtain ⟨fuel1,hf1⟩:=h1;obtain ⟨m1,n1,b1,rfl,km1,kn1⟩:=Dq (cs:=cs1) hf1;obtain ⟨fuel2,hf2⟩:=h2;have hw2:(d2.weights Tryz.prog 22).all (·<=reachBytes)=true:=by rw [List.all_eq_true] at hsz ⊢;exact λy hy=>hsz y (DataW.weights_mem_each (j:=2) rfl rfl y hy)
 obtain ⟨sl2,ns2,hv2,hr2,hn2,hb2⟩:=ks (c:=.slice b2 l2 c2) hf2 hw2;rw [hv2] at hW' ⊢;refine (sZ (Ex (ya hL) hr0 km1 kn1 hr2 hn2)).mono ?_;rintro e W' ⟨rfl,hb⟩;exact ⟨_,rfl,Ej KI rfl hW' (by kernel_rfl) rfl Tryz.underlying4 hb rfl⟩
theorem VU:Rows.GrammarEncodingMatchesReferenceSaid:=
 OpenClaim.holds_of_wide 3 Tryz.f3 rfl rfl rfl rfl rfl rfl rfl ⟨rfl,rfl,rfl,rfl,rfl⟩ rfl rfl rfl rfl rfl (by kernel_rfl) Tryz.func3 (by kernel_rfl)
  (of_decide_eq_true (by kernel_rfl)) (by unfold Func.isWrapper;first|(rw [if_pos (by decide+kernel)];kernel_rfl)|(rw [if_neg (by decide+kernel)];exact ⟨rfl,rfl⟩))
  (λos started H enc _=>Oq os started H enc)
theorem holds:Rows.GrammarEncodingMatchesReferenceCardSaid:=
 Claim7.holds_tied_plain_at .later [] [.data] true (true,"d5f1b50e323889bc6b99359835e51e16937d01c75c23e972f5b914523aca0c6e") false
  VU (λ_ h=>by cases h) (by kernel_rfl) (λ_ h=>by cases h) grammarEncodingMatchesReference_row_tie rfl ⟨rfl,rfl⟩ (by kernel_rfl) rfl
  (λf fn hf hfn=>by
   obtain rfl:f=3:=Option.some.inj ((show Tryz.prog.funcNamed "koine/koinelaw05.GrammarEncodingMatchesReference"=some 3 by kernel_rfl).symm.trans hf) |>.symm;obtain rfl:fn=Tryz.f3:=(Option.some.inj (Tryz.func3.symm.trans hfn)).symm
   exact ⟨by kernel_rfl,λj t ht=>by
    rw [Tryz.params3] at ht;have hm:t∈[26,28,22]:=by simpa using Array.mem_of_getElem? ht
    have hall:([26,28,22].all λu=> !Tryz.prog.wantsStandIn u)=true:=by kernel_rfl
    exact (show Tryz.prog.wantsStandIn t=false by simpa using List.all_eq_true.1 hall t hm)⟩)
  (by kernel_rfl)
#print axioms holds
end Go.Proofs.YtenpmjhnhepfdaaGreatDoor.Lgn

/-
  ScopeLookups: the given statement.
-/
import Derived.Test.YteilolbbgieadaaGreatDoorXh
namespace Go.Proofs.YteilolbbgieadaaGreatDoor.Lsl
open Go Go.ChangeShapes Go.WideShapes Go.ChangeAt Go.RowKit Go.Deep Go.Proofs.Tryz
set_option maxRecDepth 100000 in
theorem Q8 (os:Os) (started:os.Started) (H:Type) (enc:TypeId×Value->H):
  ReturnsInHanded {} Tryz.checked os 7 .any (λw args=>(Rows.scopeLookupsSpec.pre enc Tryz.prog Tryz.f7 Rows.scopeLookupsRow.domain false w args/\laidMetH Tryz.prog te w)/\sizedMet enc Tryz.prog Tryz.f7 (OpenSpec.ofChange Rows.scopeLookupsSpec) false w args)
   (Rows.scopeLookupsSpec.post enc Tryz.prog Tryz.f7 false true false false):=by
 refine returnsInHanded_of_change_and (C:=Tryz.checked) (X:=λw _=>laidMetH Tryz.prog te w) (λ_ _ _ hh h=>h.of_heap hh) qeN started (by kernel_rfl) Tryz.func7
  (ChangeSpec.witness_shaped (enc:=enc) (C:=Tryz.checked) (os:=os) (X:=λw _=>laidMetH Tryz.prog te w) false (World.laidAll Tryz.prog os te) #[.agg #[.int .u8 0,.int .u8 0,.slice Option.none 0 0,.slice Option.none 0 0,.slice Option.none 0 0,.int .u8 0,.slice Option.none 0 0,.slice Option.none 0 0]] 8 (World.laidAll_os _ _ _)
   (World.shaped_of_ZipB (by kernel_rfl) (by kernel_rfl)) (by kernel_rfl) (by kernel_rfl) (by kernel_rfl) (Kr os _)) ?_
 intro W qa5 args ds gs before hval0 hW _ hsz0 hL _;have hval:∀(j:Nat) t v,Tryz.f7.params[j]? =some t->args[j]? =some v->Value.okWide Tryz.prog W .any qa5 t v:=hval0;have hsz:(DataW.weightsEach Tryz.prog (Tryz.f7.params.toList++[]) (ds++gs)).all (·<=reachBytes)=true:=hsz0;have hW':=hW;obtain ⟨p,q,hA0,hV,rfl,_,_⟩:=hW;have hA:DataW.TrodAll enc Tryz.prog W 0 (λ_=>true) true Tryz.f7.params.toList args.toList ds p:=hA0;rw [Tryz.params7] at hA hval hsz;obtain ⟨rfl,rfl⟩:=trodVars_none hV;obtain ⟨v0,d0,rfl,rfl,h0⟩:=trodAll_one hA;obtain ⟨cs0,rfl,_⟩:=okWide_struct Tryz.underlying28 (hval 0 28 v0 rfl rfl);obtain ⟨fuel0,hf0⟩:=h0;have hw0:(d0.weights Tryz.prog 28).all (·<=reachBytes)=true:=by rw [List.all_eq_true] at hsz ⊢;exact λy hy=>hsz y (DataW.weights_mem_each (j:=0) rfl rfl y hy)
 obtain ⟨x0,j0,ll0,nn0,hr0⟩:=Aq (cs:=cs0) hf0 hw0;refine (qhA (qhk (qio hL) hr0)).mono ?_;rintro e W' ⟨rfl,hb⟩;exact ⟨_,rfl,GR Nt rfl hW' (by kernel_rfl) rfl Tryz.underlying4 hb rfl⟩
theorem YY:Rows.ScopeLookupsSaid:=
 OpenClaim.holds_of_wide 7 Tryz.f7 rfl rfl rfl rfl rfl rfl rfl ⟨rfl,rfl,rfl,rfl,rfl⟩ rfl rfl rfl rfl rfl (by kernel_rfl) Tryz.func7 (by kernel_rfl)
  (of_decide_eq_true (by kernel_rfl)) (by unfold Func.isWrapper;first|(rw [if_pos (by decide+kernel)];kernel_rfl)|(rw [if_neg (by decide+kernel)];exact ⟨rfl,rfl⟩))
  (λos started H enc _=>Q8 os started H enc)
theorem holds:Rows.ScopeLookupsCardSaid:=
 Claim7.holds_tied_plain_at .later [] [.data] true (true,"4ebcb19afcba4c60349e53288f74d9cd1be96ebf6d4a5840a5d779fc3440609e") true
  YY (λ_ h=>by cases h) (by kernel_rfl) (λ_ h=>by cases h) scopeLookups_row_tie rfl ⟨rfl,rfl⟩ (by kernel_rfl) rfl
  (λf fn hf hfn=>by
   obtain rfl:f=7:=Option.some.inj ((show Tryz.prog.funcNamed "koine/koinelaw15.ScopeLookups"=some 7 by kernel_rfl).symm.trans hf) |>.symm;obtain rfl:fn=Tryz.f7:=(Option.some.inj (Tryz.func7.symm.trans hfn)).symm
   exact ⟨by kernel_rfl,λj t ht=>by
    rw [Tryz.params7] at ht;have hm:t∈[28]:=by simpa using Array.mem_of_getElem? ht
    have hall:([28].all λu=> !Tryz.prog.wantsStandIn u)=true:=by kernel_rfl
    exact (show Tryz.prog.wantsStandIn t=false by simpa using List.all_eq_true.1 hall t hm)⟩)
  (by kernel_rfl)
#print axioms holds
end Go.Proofs.YteilolbbgieadaaGreatDoor.Lsl

/-
  FactsDerivations: the given statement.
-/
import Derived.Test.YtcemhghkipgdiaaGreatDoorAb
import Derived.Test.YtcemhghkipgdiaaGreatDoorDi
namespace Go.Proofs.YtcemhghkipgdiaaGreatDoor.Lfd
open Go Go.ChangeShapes Go.WideShapes Go.ChangeAt Go.RowKit Go.Deep Go.Proofs.Tryz
set_option maxRecDepth 100000 in
theorem KQ (os:Os) (started:os.Started) (H:Type) (enc:TypeId×Value->H):
  ReturnsInHanded {} Tryz.checked os 10 .any (λw args=>(Rows.factsDerivationsSpec.pre enc Tryz.prog Tryz.f10 Rows.factsDerivationsRow.domain false w args/\laidMetH Tryz.prog qC w)/\sizedMet enc Tryz.prog Tryz.f10 (OpenSpec.ofChange Rows.factsDerivationsSpec) false w args)
   (Rows.factsDerivationsSpec.post enc Tryz.prog Tryz.f10 false true false false):=by
 refine returnsInHanded_of_change_and (C:=Tryz.checked) (X:=λw _=>laidMetH Tryz.prog qC w) (λ_ _ _ hh h=>h.of_heap hh) OK started (by kernel_rfl) Tryz.func10
  (ChangeSpec.witness_shaped (enc:=enc) (C:=Tryz.checked) (os:=os) (X:=λw _=>laidMetH Tryz.prog qC w) false (World.laidAll Tryz.prog os qC) #[.agg #[.int .u8 0,.int .u8 0,.slice Option.none 0 0,.slice Option.none 0 0,.slice Option.none 0 0,.slice Option.none 0 0,.int .u8 0,.int .u8 0,.slice Option.none 0 0]] 8 (World.laidAll_os _ _ _)
   (World.shaped_of_ZipB (by kernel_rfl) (by kernel_rfl)) (by kernel_rfl) (by kernel_rfl) (by kernel_rfl) (Eu os _)) ?_
 intro W base args ds gs before hval0 hW _ hsz0 hL _;have hval:∀(j:Nat) t v,Tryz.f10.params[j]? =some t->args[j]? =some v->Value.okWide Tryz.prog W .any base t v:=hval0;have hsz:(DataW.weightsEach Tryz.prog (Tryz.f10.params.toList++[]) (ds++gs)).all (·<=reachBytes)=true:=hsz0;have hW':=hW;obtain ⟨p,q,hA0,hV,rfl,_,_⟩:=hW;have hA:DataW.TrodAll enc Tryz.prog W 0 (λ_=>true) true Tryz.f10.params.toList args.toList ds p:=hA0;rw [Tryz.params10] at hA hval hsz;obtain ⟨rfl,rfl⟩:=trodVars_none hV;obtain ⟨v0,d0,rfl,rfl,h0⟩:=trodAll_one hA;obtain ⟨cs0,rfl,_⟩:=okWide_struct Tryz.underlying72 (hval 0 72 v0 rfl rfl);obtain ⟨fuel0,hf0⟩:=h0;have hw0:(d0.weights Tryz.prog 72).all (·<=reachBytes)=true:=by rw [List.all_eq_true] at hsz ⊢;exact λy hy=>hsz y (DataW.weights_mem_each (j:=0) rfl rfl y hy)
 obtain ⟨r0_0,r0_1,r0_2,r0_3,r0_4,x0,sm0,sl0,ls0,n0,q0,bs0,rfl,hr0,hm0,kn0,kq0,hl0,hb0⟩:=xU (cs:=cs0) hf0 hw0;refine (rW (nc (wV hL) hr0 hm0 kn0 kq0 hl0 hb0)).mono ?_;rintro e W' ⟨rfl,hb⟩;exact ⟨_,rfl,Co HP rfl hW' (by kernel_rfl) rfl Tryz.underlying4 hb rfl⟩
theorem Rm:Rows.FactsDerivationsSaid:=
 OpenClaim.holds_of_wide 10 Tryz.f10 rfl rfl rfl rfl rfl rfl rfl ⟨rfl,rfl,rfl,rfl,rfl⟩ rfl rfl rfl rfl rfl (by kernel_rfl) Tryz.func10 (by kernel_rfl)
  (of_decide_eq_true (by kernel_rfl)) (by unfold Func.isWrapper;first|(rw [if_pos (by decide+kernel)];kernel_rfl)|(rw [if_neg (by decide+kernel)];exact ⟨rfl,rfl⟩))
  (λos started H enc _=>KQ os started H enc)
theorem holds:Rows.FactsDerivationsCardSaid:=
 Claim7.holds_tied_plain_at .later [] [.data] true (true,"4ffb3938bcd1adf7ebfffc8631b70f6a38b5d1a5f20b426475762a3381ec5eb5") true
  Rm (λ_ h=>by cases h) (by kernel_rfl) (λ_ h=>by cases h) factsDerivations_row_tie rfl ⟨rfl,rfl⟩ (by kernel_rfl) rfl
  (λf fn hf hfn=>by
   obtain rfl:f=10:=Option.some.inj ((show Tryz.prog.funcNamed "koine/koinelaw06.FactsDerivations"=some 10 by kernel_rfl).symm.trans hf) |>.symm;obtain rfl:fn=Tryz.f10:=(Option.some.inj (Tryz.func10.symm.trans hfn)).symm
   exact ⟨by kernel_rfl,λj t ht=>by
    rw [Tryz.params10] at ht;have hm:t∈[72]:=by simpa using Array.mem_of_getElem? ht
    have hall:([72].all λu=> !Tryz.prog.wantsStandIn u)=true:=by kernel_rfl
    exact (show Tryz.prog.wantsStandIn t=false by simpa using List.all_eq_true.1 hall t hm)⟩)
  (by kernel_rfl)
#print axioms holds
end Go.Proofs.YtcemhghkipgdiaaGreatDoor.Lfd

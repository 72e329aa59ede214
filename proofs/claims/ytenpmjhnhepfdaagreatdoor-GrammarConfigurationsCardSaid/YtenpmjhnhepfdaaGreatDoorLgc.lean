/-
  GrammarConfigurations: the given statement.
-/
import Derived.Test.YtenpmjhnhepfdaaGreatDoorJd
import Derived.Test.YtenpmjhnhepfdaaGreatDoorJg
namespace Go.Proofs.YtenpmjhnhepfdaaGreatDoor.Lgc
open Go Go.ChangeShapes Go.WideShapes Go.ChangeAt Go.RowKit Go.Deep Go.Proofs.Tryz
set_option maxRecDepth 100000 in
theorem GT (os:Os) (started:os.Started) (H:Type) (enc:TypeId×Value→H):
  ReturnsInHanded {} Tryz.checked os 9 .any (fun w args=>(Rows.grammarConfigurationsSpec.pre enc Tryz.prog Tryz.f9 Rows.grammarConfigurationsRow.domain false w args∧laidMetH Tryz.prog nP w)∧sizedMet enc Tryz.prog Tryz.f9 (OpenSpec.ofChange Rows.grammarConfigurationsSpec) false w args)
   (Rows.grammarConfigurationsSpec.post enc Tryz.prog Tryz.f9 false true false false):=by
 refine returnsInHanded_of_change_and (C:=Tryz.checked) (X:=fun w _=>laidMetH Tryz.prog nP w) (fun _ _ _ hh h=>h.of_heap hh) JC started (by kernel_rfl) Tryz.func9
  (ChangeSpec.witness_shaped (enc:=enc) (C:=Tryz.checked) (os:=os) (X:=fun w _=>laidMetH Tryz.prog nP w) false (World.laidAll Tryz.prog os nP) #[.agg #[.int .u8 0,.int .u8 0,.slice Option.none 0 0,.slice Option.none 0 0,.slice Option.none 0 0],.int .u64 0] 8 (World.laidAll_os _ _ _)
   (World.shaped_of_ZipB (by kernel_rfl) (by kernel_rfl)) (by kernel_rfl) (by kernel_rfl) (by kernel_rfl) (AS os _)) ?_
 intro W base args ds gs before hval0 hW _ hsz0 hL _
 have hval:∀(j:Nat) t v,Tryz.f9.params[j]? =some t→args[j]? =some v→Value.okWide Tryz.prog W .any base t v:=hval0
 have hsz:(DataW.weightsEach Tryz.prog (Tryz.f9.params.toList++[]) (ds++gs)).all (·≤reachBytes)=true:=hsz0
 have hW':=hW
 obtain ⟨p,q,hA0,hV,rfl,_,_⟩:=hW
 have hA:DataW.TrodAll enc Tryz.prog W 0 (fun _=>true) true Tryz.f9.params.toList args.toList ds p:=hA0
 rw [Tryz.params9] at hA hval hsz
 obtain ⟨rfl,rfl⟩:=trodVars_none hV
 obtain ⟨v0,v1,d0,d1,p0,p1,rfl,rfl,rfl,h0,h1⟩:=trodAll_two hA
 obtain ⟨cs0,rfl,_⟩:=okWide_struct Tryz.underlying26 (hval 0 26 v0 rfl rfl)
 obtain ⟨a1,rfl,rfl,rfl,w1⟩:=open_int Tryz.underlying54 (hval 1 54 v1 rfl rfl) h1
 obtain ⟨fuel0,hf0⟩:=h0
 have hw0:(d0.weights Tryz.prog 26).all (·≤reachBytes)=true:=by
  rw [List.all_eq_true] at hsz ⊢
  exact fun y hy=>hsz y (DataW.weights_mem_each (j:=0) rfl rfl y hy)
 obtain ⟨x0,hr0⟩:=zJ (cs:=cs0) hf0 hw0
 refine (pE (zB (tS hL) hr0 (bounds_u64 w1).1 (by have:=(bounds_u64 w1).2;omega))).mono ?_
 rintro e W' ⟨rfl,hb⟩
 exact ⟨_,rfl,y9 Dp rfl hW' (by kernel_rfl) rfl Tryz.underlying4 hb rfl⟩
theorem NB:Rows.GrammarConfigurationsSaid:=
 OpenClaim.holds_of_wide 9 Tryz.f9 rfl rfl rfl rfl rfl rfl rfl ⟨rfl,rfl,rfl,rfl,rfl⟩ rfl rfl rfl rfl rfl (by kernel_rfl) Tryz.func9 (by kernel_rfl)
  (of_decide_eq_true (by kernel_rfl)) (by unfold Func.isWrapper;first|(rw [if_pos (by decide+kernel)];kernel_rfl)|(rw [if_neg (by decide+kernel)];exact ⟨rfl,rfl⟩))
  (fun os started H enc _=>GT os started H enc)
theorem holds:Rows.GrammarConfigurationsCardSaid:=
 Claim7.holds_tied_plain_at .later [] [.data] true (true,"d5f1b50e323889bc6b99359835e51e16937d01c75c23e972f5b914523aca0c6e") false
  NB (fun _ h=>(by cases h)) (by kernel_rfl) (fun _ h=>(by cases h)) grammarConfigurations_row_tie rfl ⟨rfl,rfl⟩ (by kernel_rfl) rfl
  (fun f fn hf hfn=>by
   obtain rfl:f=9:=Option.some.inj ((show Tryz.prog.funcNamed "koine/koinelaw05.GrammarConfigurations"=some 9 by kernel_rfl).symm.trans hf) |>.symm
   obtain rfl:fn=Tryz.f9:=(Option.some.inj (Tryz.func9.symm.trans hfn)).symm
   exact ⟨by kernel_rfl,fun j t ht=>by
    rw [Tryz.params9] at ht
    have hm:t∈[26,54]:=by simpa using Array.mem_of_getElem? ht
    have hall:([26,54].all fun u=> !Tryz.prog.wantsStandIn u)=true:=by kernel_rfl
    exact (show Tryz.prog.wantsStandIn t=false by simpa using List.all_eq_true.1 hall t hm)⟩)
  (by kernel_rfl)
#print axioms holds
end Go.Proofs.YtenpmjhnhepfdaaGreatDoor.Lgc

/-
  GrammarPartsMatchReference: the given statement.
-/
import Derived.Test.YtenpmjhnhepfdaaGreatDoorTa
import Derived.Test.YtenpmjhnhepfdaaGreatDoorLo
namespace Go.Proofs.YtenpmjhnhepfdaaGreatDoor.Lgp
open Go Go.ChangeShapes Go.WideShapes Go.ChangeAt Go.RowKit Go.Deep Go.Proofs.Tryz
set_option maxRecDepth 100000 in
theorem Ml (os:Os) (started:os.Started) (H:Type) (enc:TypeId×Value->H):
  ReturnsInHanded {} Tryz.checked os 6 .any (fun w args=>(Rows.grammarPartsMatchReferenceSpec.pre enc Tryz.prog Tryz.f6 Rows.grammarPartsMatchReferenceRow.domain false w args/\laidMetH Tryz.prog qJ w)/\sizedMet enc Tryz.prog Tryz.f6 (OpenSpec.ofChange Rows.grammarPartsMatchReferenceSpec) false w args)
   (Rows.grammarPartsMatchReferenceSpec.post enc Tryz.prog Tryz.f6 false true false false):=by
 refine returnsInHanded_of_change_and (C:=Tryz.checked) (X:=fun w _=>laidMetH Tryz.prog qJ w) (fun _ _ _ hh h=>h.of_heap hh) QI started (by kernel_rfl) Tryz.func6
  (ChangeSpec.witness_shaped (enc:=enc) (C:=Tryz.checked) (os:=os) (X:=fun w _=>laidMetH Tryz.prog qJ w) false (World.laidAll Tryz.prog os qJ) #[.agg #[.int .u8 0,.int .u8 0,.slice Option.none 0 0,.slice Option.none 0 0,.slice Option.none 0 0],.agg #[.int .u8 0,.int .u8 0,.int .i64 0],.int .u64 0] 8 (World.laidAll_os _ _ _)
   (World.shaped_of_ZipB (by kernel_rfl) (by kernel_rfl)) (by kernel_rfl) (by kernel_rfl) (by kernel_rfl) (GA os _)) ?_
 intro W base args ds gs before hval0 hW _ hsz0 hL _
 have hval:∀(j:Nat) t v,Tryz.f6.params[j]? =some t->args[j]? =some v->Value.okWide Tryz.prog W .any base t v:=hval0
 have hsz:(DataW.weightsEach Tryz.prog (Tryz.f6.params.toList++[]) (ds++gs)).all (·<=reachBytes)=true:=hsz0
 have hW':=hW
 obtain ⟨p,q,hA0,hV,rfl,_,_⟩:=hW
 have hA:DataW.TrodAll enc Tryz.prog W 0 (fun _=>true) true Tryz.f6.params.toList args.toList ds p:=hA0
 rw [Tryz.params6] at hA hval hsz
 obtain ⟨rfl,rfl⟩:=trodVars_none hV
 obtain ⟨v0,v1,v2,d0,d1,d2,p0,p1,p2,rfl,rfl,rfl,h0,h1,h2⟩:=trodAll_three hA
 obtain ⟨cs0,rfl,_⟩:=okWide_struct Tryz.underlying26 (hval 0 26 v0 rfl rfl)
 obtain ⟨cs1,rfl,_⟩:=okWide_struct Tryz.underlying28 (hval 1 28 v1 rfl rfl)
 obtain ⟨a2,rfl,rfl,rfl,w2⟩:=open_int Tryz.underlying54 (hval 2 54 v2 rfl rfl) h2
 obtain ⟨fuel0,hf0⟩:=h0
 have hw0:(d0.weights Tryz.prog 26).all (·<=reachBytes)=true:=by
  rw [List.all_eq_true] at hsz ⊢
  exact fun y hy=>hsz y (DataW.weights_mem_each (j:=0) rfl rfl y hy)
 obtain ⟨x0,hr0⟩:=Dz (cs:=cs0) hf0 hw0
 obtain ⟨fuel1,hf1⟩:=h1
 obtain ⟨m1,n1,b1,rfl,km1,kn1⟩:=Cd (cs:=cs1) hf1
 refine (rG (zl (xy hL) hr0 km1 kn1 (bounds_u64 w2).1 (by have:=(bounds_u64 w2).2;omega))).mono ?_
 rintro e W' ⟨rfl,hb⟩
 exact ⟨_,rfl,Cm Ja rfl hW' (by kernel_rfl) rfl Tryz.underlying4 hb rfl⟩
theorem Tg:Rows.GrammarPartsMatchReferenceSaid:=
 OpenClaim.holds_of_wide 6 Tryz.f6 rfl rfl rfl rfl rfl rfl rfl ⟨rfl,rfl,rfl,rfl,rfl⟩ rfl rfl rfl rfl rfl (by kernel_rfl) Tryz.func6 (by kernel_rfl)
  (of_decide_eq_true (by kernel_rfl)) (by unfold Func.isWrapper;first|(rw [if_pos (by decide+kernel)];kernel_rfl)|(rw [if_neg (by decide+kernel)];exact ⟨rfl,rfl⟩))
  (fun os started H enc _=>Ml os started H enc)
theorem holds:Rows.GrammarPartsMatchReferenceCardSaid:=
 Claim7.holds_tied_plain_at .later [] [.data] true (true,"d5f1b50e323889bc6b99359835e51e16937d01c75c23e972f5b914523aca0c6e") false
  Tg (fun _ h=>(by cases h)) (by kernel_rfl) (fun _ h=>(by cases h)) grammarPartsMatchReference_row_tie rfl ⟨rfl,rfl⟩ (by kernel_rfl) rfl
  (fun f fn hf hfn=>by
   obtain rfl:f=6:=Option.some.inj ((show Tryz.prog.funcNamed "koine/koinelaw05.GrammarPartsMatchReference"=some 6 by kernel_rfl).symm.trans hf) |>.symm
   obtain rfl:fn=Tryz.f6:=(Option.some.inj (Tryz.func6.symm.trans hfn)).symm
   exact ⟨by kernel_rfl,fun j t ht=>by
    rw [Tryz.params6] at ht
    have hm:t∈[26,28,54]:=by simpa using Array.mem_of_getElem? ht
    have hall:([26,28,54].all fun u=> !Tryz.prog.wantsStandIn u)=true:=by kernel_rfl
    exact (show Tryz.prog.wantsStandIn t=false by simpa using List.all_eq_true.1 hall t hm)⟩)
  (by kernel_rfl)
#print axioms holds
end Go.Proofs.YtenpmjhnhepfdaaGreatDoor.Lgp

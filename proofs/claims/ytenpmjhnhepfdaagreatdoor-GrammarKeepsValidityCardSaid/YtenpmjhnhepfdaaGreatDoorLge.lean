/-
  GrammarKeepsValidity: the given statement.
-/
import Derived.Test.YtenpmjhnhepfdaaGreatDoorJc
import Derived.Test.YtenpmjhnhepfdaaGreatDoorJe
namespace Go.Proofs.YtenpmjhnhepfdaaGreatDoor.Lge
open Go Go.ChangeShapes Go.WideShapes Go.ChangeAt Go.RowKit Go.Deep Go.Proofs.Tryz
set_option maxRecDepth 100000 in
theorem HK (os:Os) (started:os.Started) (H:Type) (enc:TypeId×Value→H):
  ReturnsInHanded {} Tryz.checked os 8 .any (fun w args=>(Rows.grammarKeepsValiditySpec.pre enc Tryz.prog Tryz.f8 Rows.grammarKeepsValidityRow.domain false w args∧laidMetH Tryz.prog pv w)∧sizedMet enc Tryz.prog Tryz.f8 (OpenSpec.ofChange Rows.grammarKeepsValiditySpec) false w args)
   (Rows.grammarKeepsValiditySpec.post enc Tryz.prog Tryz.f8 false true false false):=by
 refine returnsInHanded_of_change_and (C:=Tryz.checked) (X:=fun w _=>laidMetH Tryz.prog pv w) (fun _ _ _ hh h=>h.of_heap hh) LL started (by kernel_rfl) Tryz.func8
  (ChangeSpec.witness_shaped (enc:=enc) (C:=Tryz.checked) (os:=os) (X:=fun w _=>laidMetH Tryz.prog pv w) false (World.laidAll Tryz.prog os pv) #[.agg #[.int .u8 0,.int .u8 0,.slice Option.none 0 0,.slice Option.none 0 0,.slice Option.none 0 0],.int .u8 0,.int .u8 0] 8 (World.laidAll_os _ _ _)
   (World.shaped_of_ZipB (by kernel_rfl) (by kernel_rfl)) (by kernel_rfl) (by kernel_rfl) (by kernel_rfl) (CU os _)) ?_
 intro W base args ds gs before hval0 hW _ hsz0 hL _
 have hval:∀(j:Nat) t v,Tryz.f8.params[j]? =some t→args[j]? =some v→Value.okWide Tryz.prog W .any base t v:=hval0
 have hsz:(DataW.weightsEach Tryz.prog (Tryz.f8.params.toList++[]) (ds++gs)).all (·≤reachBytes)=true:=hsz0
 have hW':=hW
 obtain ⟨p,q,hA0,hV,rfl,_,_⟩:=hW
 have hA:DataW.TrodAll enc Tryz.prog W 0 (fun _=>true) true Tryz.f8.params.toList args.toList ds p:=hA0
 rw [Tryz.params8] at hA hval hsz
 obtain ⟨rfl,rfl⟩:=trodVars_none hV
 obtain ⟨v0,v1,v2,d0,d1,d2,p0,p1,p2,rfl,rfl,rfl,h0,h1,h2⟩:=trodAll_three hA
 obtain ⟨cs0,rfl,_⟩:=okWide_struct Tryz.underlying26 (hval 0 26 v0 rfl rfl)
 obtain ⟨a1,rfl,rfl,rfl,w1⟩:=open_int Tryz.underlying5 (hval 1 5 v1 rfl rfl) h1
 obtain ⟨n1,rfl,k1⟩:=dE w1
 obtain ⟨a2,rfl,rfl,rfl,w2⟩:=open_int Tryz.underlying5 (hval 2 5 v2 rfl rfl) h2
 obtain ⟨n2,rfl,k2⟩:=dE w2
 obtain ⟨fuel0,hf0⟩:=h0
 have hw0:(d0.weights Tryz.prog 26).all (·≤reachBytes)=true:=by
  rw [List.all_eq_true] at hsz ⊢
  exact fun y hy=>hsz y (DataW.weights_mem_each (j:=0) rfl rfl y hy)
 obtain ⟨x0,hr0⟩:=AC (cs:=cs0) hf0 hw0
 refine (qi (w7 (uX hL) hr0 k1 k2)).mono ?_
 rintro e W' ⟨rfl,hb⟩
 exact ⟨_,rfl,z8 EO rfl hW' (by kernel_rfl) rfl Tryz.underlying4 hb rfl⟩
theorem Oh:Rows.GrammarKeepsValiditySaid:=
 OpenClaim.holds_of_wide 8 Tryz.f8 rfl rfl rfl rfl rfl rfl rfl ⟨rfl,rfl,rfl,rfl,rfl⟩ rfl rfl rfl rfl rfl (by kernel_rfl) Tryz.func8 (by kernel_rfl)
  (of_decide_eq_true (by kernel_rfl)) (by unfold Func.isWrapper;first|(rw [if_pos (by decide+kernel)];kernel_rfl)|(rw [if_neg (by decide+kernel)];exact ⟨rfl,rfl⟩))
  (fun os started H enc _=>HK os started H enc)
theorem holds:Rows.GrammarKeepsValidityCardSaid:=
 Claim7.holds_tied_plain_at .later [] [.data] true (true,"d5f1b50e323889bc6b99359835e51e16937d01c75c23e972f5b914523aca0c6e") false
  Oh (fun _ h=>(by cases h)) (by kernel_rfl) (fun _ h=>(by cases h)) grammarKeepsValidity_row_tie rfl ⟨rfl,rfl⟩ (by kernel_rfl) rfl
  (fun f fn hf hfn=>by
   obtain rfl:f=8:=Option.some.inj ((show Tryz.prog.funcNamed "koine/koinelaw05.GrammarKeepsValidity"=some 8 by kernel_rfl).symm.trans hf) |>.symm
   obtain rfl:fn=Tryz.f8:=(Option.some.inj (Tryz.func8.symm.trans hfn)).symm
   exact ⟨by kernel_rfl,fun j t ht=>by
    rw [Tryz.params8] at ht
    have hm:t∈[26,5,5]:=by simpa using Array.mem_of_getElem? ht
    have hall:([26,5,5].all fun u=> !Tryz.prog.wantsStandIn u)=true:=by kernel_rfl
    exact (show Tryz.prog.wantsStandIn t=false by simpa using List.all_eq_true.1 hall t hm)⟩)
  (by kernel_rfl)
#print axioms holds
end Go.Proofs.YtenpmjhnhepfdaaGreatDoor.Lge

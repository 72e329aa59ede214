/-
  GrammarBytes: the given statement.
-/
import Derived.Test.YtenpmjhnhepfdaaGreatDoorTopj
import Derived.Test.YtenpmjhnhepfdaaGreatDoorJo
namespace Go.Proofs.YtenpmjhnhepfdaaGreatDoor.Lgb
open Go Go.ChangeShapes Go.WideShapes Go.ChangeAt Go.RowKit Go.Deep Go.Proofs.Tryz
set_option maxRecDepth 100000 in
theorem Id (os:Os) (started:os.Started) (H:Type) (enc:TypeId×Value→H):
  ReturnsInHanded {} Tryz.checked os 5 .any (fun w args=>(Rows.grammarBytesSpec.pre enc Tryz.prog Tryz.f5 Rows.grammarBytesRow.domain false w args∧laidMetH Tryz.prog pq w)∧sizedMet enc Tryz.prog Tryz.f5 (OpenSpec.ofChange Rows.grammarBytesSpec) false w args)
   (Rows.grammarBytesSpec.post enc Tryz.prog Tryz.f5 false true false false):=by
 refine returnsInHanded_of_change_and (C:=Tryz.checked) (X:=fun w _=>laidMetH Tryz.prog pq w) (fun _ _ _ hh h=>h.of_heap hh) MH started (by kernel_rfl) Tryz.func5
  (ChangeSpec.witness_shaped (enc:=enc) (C:=Tryz.checked) (os:=os) (X:=fun w _=>laidMetH Tryz.prog pq w) false (World.laidAll Tryz.prog os pq) #[.agg #[.int .u8 0,.int .u8 0,.slice Option.none 0 0,.slice Option.none 0 0,.slice Option.none 0 0],.slice Option.none 0 0,.int .u16 0] 8 (World.laidAll_os _ _ _)
   (World.shaped_of_ZipB (by kernel_rfl) (by kernel_rfl)) (by kernel_rfl) (by kernel_rfl) (by kernel_rfl) (Dc os _)) ?_
 intro W base args ds gs before hval0 hW _ hsz0 hL _
 have hval:∀(j:Nat) t v,Tryz.f5.params[j]? =some t→args[j]? =some v→Value.okWide Tryz.prog W .any base t v:=hval0
 have hsz:(DataW.weightsEach Tryz.prog (Tryz.f5.params.toList++[]) (ds++gs)).all (·≤reachBytes)=true:=hsz0
 have hW':=hW
 obtain ⟨p,q,hA0,hV,rfl,_,_⟩:=hW
 have hA:DataW.TrodAll enc Tryz.prog W 0 (fun _=>true) true Tryz.f5.params.toList args.toList ds p:=hA0
 rw [Tryz.params5] at hA hval hsz
 obtain ⟨rfl,rfl⟩:=trodVars_none hV
 obtain ⟨v0,v1,v2,d0,d1,d2,p0,p1,p2,rfl,rfl,rfl,h0,h1,h2⟩:=trodAll_three hA
 obtain ⟨cs0,rfl,_⟩:=okWide_struct Tryz.underlying26 (hval 0 26 v0 rfl rfl)
 obtain ⟨b1,l1,c1,rfl⟩:=okWide_slice Tryz.underlying22 (hval 1 22 v1 rfl rfl)
 obtain ⟨a2,rfl,rfl,rfl,w2⟩:=open_int Tryz.underlying50 (hval 2 50 v2 rfl rfl) h2
 obtain ⟨n2,rfl,k2⟩:=DL w2
 obtain ⟨fuel0,hf0⟩:=h0
 have hw0:(d0.weights Tryz.prog 26).all (·≤reachBytes)=true:=by
  rw [List.all_eq_true] at hsz ⊢
  exact fun y hy=>hsz y (DataW.weights_mem_each (j:=0) rfl rfl y hy)
 obtain ⟨x0,hr0⟩:=AA (cs:=cs0) hf0 hw0
 obtain ⟨fuel1,hf1⟩:=h1
 have hw1:(d1.weights Tryz.prog 22).all (·≤reachBytes)=true:=by
  rw [List.all_eq_true] at hsz ⊢
  exact fun y hy=>hsz y (DataW.weights_mem_each (j:=1) rfl rfl y hy)
 obtain ⟨sl1,ns1,hv1,hr1,hn1,hb1⟩:=jh (c:=.slice b1 l1 c1) hf1 hw1
 rw [hv1] at hW' ⊢
 refine (qk (wX (uY hL) hr0 hr1 hn1 k2)).mono ?_
 rintro e W' ⟨rfl,hb⟩
 exact ⟨_,rfl,zZ Fp rfl hW' (by kernel_rfl) rfl Tryz.underlying4 hb rfl⟩
theorem OS:Rows.GrammarBytesSaid:=
 OpenClaim.holds_of_wide 5 Tryz.f5 rfl rfl rfl rfl rfl rfl rfl ⟨rfl,rfl,rfl,rfl,rfl⟩ rfl rfl rfl rfl rfl (by kernel_rfl) Tryz.func5 (by kernel_rfl)
  (of_decide_eq_true (by kernel_rfl)) (by unfold Func.isWrapper;first|(rw [if_pos (by decide+kernel)];kernel_rfl)|(rw [if_neg (by decide+kernel)];exact ⟨rfl,rfl⟩))
  (fun os started H enc _=>Id os started H enc)
theorem holds:Rows.GrammarBytesCardSaid:=
 Claim7.holds_tied_plain_at .later [] [.data] true (true,"d5f1b50e323889bc6b99359835e51e16937d01c75c23e972f5b914523aca0c6e") false
  OS (fun _ h=>(by cases h)) (by kernel_rfl) (fun _ h=>(by cases h)) grammarBytes_row_tie rfl ⟨rfl,rfl⟩ (by kernel_rfl) rfl
  (fun f fn hf hfn=>by
   obtain rfl:f=5:=Option.some.inj ((show Tryz.prog.funcNamed "koine/koinelaw05.GrammarBytes"=some 5 by kernel_rfl).symm.trans hf) |>.symm
   obtain rfl:fn=Tryz.f5:=(Option.some.inj (Tryz.func5.symm.trans hfn)).symm
   exact ⟨by kernel_rfl,fun j t ht=>by
    rw [Tryz.params5] at ht
    have hm:t∈[26,22,50]:=by simpa using Array.mem_of_getElem? ht
    have hall:([26,22,50].all fun u=> !Tryz.prog.wantsStandIn u)=true:=by kernel_rfl
    exact (show Tryz.prog.wantsStandIn t=false by simpa using List.all_eq_true.1 hall t hm)⟩)
  (by kernel_rfl)
#print axioms holds
end Go.Proofs.YtenpmjhnhepfdaaGreatDoor.Lgb

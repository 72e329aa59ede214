/-
  FactsCycles: the given statement.
-/
import Derived.Test.YtcemhghkipgdiaaGreatDoorAb
import Derived.Test.YtcemhghkipgdiaaGreatDoorDf
namespace Go.Proofs.YtcemhghkipgdiaaGreatDoor.Lfc
open Go Go.ChangeShapes Go.WideShapes Go.ChangeAt Go.RowKit Go.Deep Go.Proofs.Tryz
set_option maxRecDepth 100000 in
theorem Jc (os:Os) (started:os.Started) (H:Type) (enc:TypeId×Value->H):
  ReturnsInHanded {} Tryz.checked os 6 .any (λw args=>(Rows.factsCyclesSpec.pre enc Tryz.prog Tryz.f6 Rows.factsCyclesRow.domain false w args/\laidMetH Tryz.prog pY w)/\sizedMet enc Tryz.prog Tryz.f6 (OpenSpec.ofChange Rows.factsCyclesSpec) false w args)
   (Rows.factsCyclesSpec.post enc Tryz.prog Tryz.f6 false true false false):=by
 refine returnsInHanded_of_change_and (C:=Tryz.checked) (X:=λw _=>laidMetH Tryz.prog pY w) (λ_ _ _ hh h=>h.of_heap hh) Nv started (by kernel_rfl) Tryz.func6
  (ChangeSpec.witness_shaped (enc:=enc) (C:=Tryz.checked) (os:=os) (X:=λw _=>laidMetH Tryz.prog pY w) false (World.laidAll Tryz.prog os pY) #[.agg #[.int .u8 0,.int .u8 0,.slice Option.none 0 0,.slice Option.none 0 0,.slice Option.none 0 0],.int .u8 0,.int .u8 0,.bool false] 8 (World.laidAll_os _ _ _)
   (World.shaped_of_ZipB (by kernel_rfl) (by kernel_rfl)) (by kernel_rfl) (by kernel_rfl) (by kernel_rfl) (DJ os _)) ?_
 intro W base args ds gs before hval0 hW _ hsz0 hL _;have hval:∀(j:Nat) t v,Tryz.f6.params[j]? =some t->args[j]? =some v->Value.okWide Tryz.prog W .any base t v:=hval0;have hsz:(DataW.weightsEach Tryz.prog (Tryz.f6.params.toList++[]) (ds++gs)).all (·<=reachBytes)=true:=hsz0;have hW':=hW;obtain ⟨p,q,hA0,hV,rfl,_,_⟩:=hW;have hA:DataW.TrodAll enc Tryz.prog W 0 (λ_=>true) true Tryz.f6.params.toList args.toList ds p:=hA0;rw [Tryz.params6] at hA hval hsz;obtain ⟨rfl,rfl⟩:=trodVars_none hV;obtain ⟨v0,v1,v2,v3,d0,d1,d2,d3,p0,p1,p2,p3,rfl,rfl,rfl,h0,h1,h2,h3⟩:=trodAll_four hA;obtain ⟨cs0,rfl,_⟩:=okWide_struct Tryz.underlying26 (hval 0 26 v0 rfl rfl);obtain ⟨a1,rfl,rfl,rfl,w1⟩:=open_int Tryz.underlying5 (hval 1 5 v1 rfl rfl) h1;obtain ⟨n1,rfl,k1⟩:=dX w1;obtain ⟨a2,rfl,rfl,rfl,w2⟩:=open_int Tryz.underlying5 (hval 2 5 v2 rfl rfl) h2;obtain ⟨n2,rfl,k2⟩:=dX w2;obtain ⟨a3,rfl,rfl,rfl⟩:=open_bool Tryz.underlying4 (hval 3 4 v3 rfl rfl) h3;obtain ⟨fuel0,hf0⟩:=h0;have hw0:(d0.weights Tryz.prog 26).all (·<=reachBytes)=true:=by rw [List.all_eq_true] at hsz ⊢;exact λy hy=>hsz y (DataW.weights_mem_each (j:=0) rfl rfl y hy)
 obtain ⟨x0,hr0⟩:=BM (cs:=cs0) hf0 hw0;refine (ri (vV (vQ hL) hr0 k1 k2)).mono ?_;rintro e W' ⟨rfl,hb⟩;exact ⟨_,rfl,A5 Gc rfl hW' (by kernel_rfl) rfl Tryz.underlying4 hb rfl⟩
theorem Po:Rows.FactsCyclesSaid:=
 OpenClaim.holds_of_wide 6 Tryz.f6 rfl rfl rfl rfl rfl rfl rfl ⟨rfl,rfl,rfl,rfl,rfl⟩ rfl rfl rfl rfl rfl (by kernel_rfl) Tryz.func6 (by kernel_rfl)
  (of_decide_eq_true (by kernel_rfl)) (by unfold Func.isWrapper;first|(rw [if_pos (by decide+kernel)];kernel_rfl)|(rw [if_neg (by decide+kernel)];exact ⟨rfl,rfl⟩))
  (λos started H enc _=>Jc os started H enc)
theorem holds:Rows.FactsCyclesCardSaid:=
 Claim7.holds_tied_plain_at .later [] [.data] true (true,"4ffb3938bcd1adf7ebfffc8631b70f6a38b5d1a5f20b426475762a3381ec5eb5") true
  Po (λ_ h=>by cases h) (by kernel_rfl) (λ_ h=>by cases h) factsCycles_row_tie rfl ⟨rfl,rfl⟩ (by kernel_rfl) rfl
  (λf fn hf hfn=>by
   obtain rfl:f=6:=Option.some.inj ((show Tryz.prog.funcNamed "koine/koinelaw06.FactsCycles"=some 6 by kernel_rfl).symm.trans hf) |>.symm;obtain rfl:fn=Tryz.f6:=(Option.some.inj (Tryz.func6.symm.trans hfn)).symm
   exact ⟨by kernel_rfl,λj t ht=>by
    rw [Tryz.params6] at ht;have hm:t∈[26,5,5,4]:=by simpa using Array.mem_of_getElem? ht
    have hall:([26,5,5,4].all λu=> !Tryz.prog.wantsStandIn u)=true:=by kernel_rfl
    exact (show Tryz.prog.wantsStandIn t=false by simpa using List.all_eq_true.1 hall t hm)⟩)
  (by kernel_rfl)
#print axioms holds
end Go.Proofs.YtcemhghkipgdiaaGreatDoor.Lfc

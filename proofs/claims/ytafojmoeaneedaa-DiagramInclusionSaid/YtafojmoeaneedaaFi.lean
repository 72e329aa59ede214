/-
  DiagramInclusion: the plain law; the walk.
-/
import Derived.Test.YtafojmoeaneedaaEt
import Derived.Test.YtafojmoeaneedaaFf
import Derived.Test.YtafojmoeaneedaaFh
import Derived.Test.YtafojmoeaneedaaGL11
namespace Go.Proofs.Ytafojmoeaneedaa
open Go Go.Proofs.Try Tr
set_option maxRecDepth 10000

theorem miss_eq {a b : Tr} {both : Bool} (ha : Small a) (hb : Small b) : missD (dia a) (dia b) both = !hitB a b both := by
  unfold missD
  rw [if_neg (by rw [chkL_small2 ha hb]; simp), tre_dia ha.1, tre_dia hb.1]
section
variable {ta tb tc : Tr}
theorem inc_within (ka : ta.ok) (kb : tb.ok) (kc : tc.ok) (fc : ∀ x, tc.ev x = oAnd (ta.ev x) (tb.ev x)) : decide (dia tc = dia ta) = !hitB ta tb false := by
  rw [Bool.eq_iff_iff, decide_eq_true_iff, same_iff kc ka, Bool.not_eq_true', Bool.eq_false_iff, ne_eq, hitB_iff]
  constructor
  · rintro rfl ⟨c, h1, h2⟩
    have := fc c
    rw [h1, h2] at this
    cases this
  · intro h
    refine eq_of_ev kc ka fun x => ?_
    rw [fc]
    cases h1 : ta.ev x with
    | false => rfl
    | true =>
      cases h2 : tb.ev x with
      | true => rfl
      | false => exact absurd ⟨x, h1, h2⟩ h
theorem inc_disjoint (ka : ta.ok) (kb : tb.ok) (kc : tc.ok) (fc : ∀ x, tc.ev x = oAnd (ta.ev x) (tb.ev x)) : decide (dia tc = dia (leaf false)) = !hitB ta tb true := by
  rw [Bool.eq_iff_iff, decide_eq_true_iff, same_iff kc (b := leaf false) trivial, Bool.not_eq_true', Bool.eq_false_iff, ne_eq, hitB_iff]
  constructor
  · rintro rfl ⟨c, h1, h2⟩
    have := fc c
    rw [h1, h2] at this
    cases this
  · intro h
    refine eq_of_ev kc trivial fun x => ?_
    rw [fc]
    cases h1 : ta.ev x with
    | false => rfl
    | true =>
      cases h2 : tb.ev x with
      | false => rfl
      | true => exact absurd ⟨x, h1, h2⟩ h
theorem inc_both (ka : ta.ok) (kb : tb.ok) : decide (dia ta = dia tb) = (!hitB ta tb false && !hitB tb ta false) := by
  rw [Bool.eq_iff_iff, decide_eq_true_iff, same_iff ka kb, Bool.and_eq_true, Bool.not_eq_true', Bool.not_eq_true', Bool.eq_false_iff, Bool.eq_false_iff, ne_eq, ne_eq, hitB_iff, hitB_iff]
  constructor
  · rintro rfl
    have hn : ¬ hit ta ta false := by
      rintro ⟨c, h1, h2⟩
      rw [h1] at h2
      cases h2
    exact ⟨hn, hn⟩
  · rintro ⟨h, h'⟩
    refine eq_of_ev ka kb fun x => ?_
    cases h1 : ta.ev x with
    | false =>
      cases h2 : tb.ev x with
      | false => rfl
      | true => exact absurd ⟨x, h2, h1⟩ h'
    | true =>
      cases h2 : tb.ev x with
      | true => rfl
      | false => exact absurd ⟨x, h1, h2⟩ h
theorem inc_self (fc : ∀ x, tc.ev x = oAnd (ta.ev x) (tb.ev x)) : (!hitB tc tb false) = true := by
  rw [Bool.not_eq_true', Bool.eq_false_iff, ne_eq, hitB_iff]
  rintro ⟨c, h1, h2⟩
  rw [fc, h2] at h1
  cases h : ta.ev c <;> rw [h] at h1 <;> cases h1

theorem inc_j2 {F0 F : PH} {b6 b7 b8 : Nat} {bo : Bool} (ka : Sx 6 ta) (kb : Sx 6 tb) (kc : Sx 6 tc) (fc : ∀ x, tc.ev x = oAnd (ta.ev x) (tb.ev x)) (hle : F0.le F) (h0 : Los F [(b8, dia tc), (b7, dia tb), (b6, dia ta)])
    (hbo : bo = (!hitB ta tb false && !hitB tb ta false)) {R : Value → PH → Prop} (hR : ∀ F', F0.le F' → R (.bool true) F') : b11j2 true (Addr.mk b6 0 none) (Addr.mk b7 0 none) b8 0 (!hitB ta tb false) bo R F := by
  have sa := ka.small (by omega)
  have sb := kb.small (by omega)
  have sc := kc.small (by omega)
  unfold b11j2
  refine ⟨fun _ => ?_, fun h => absurd rfl h⟩
  refine getD (b := b8) (d := dia tc) h0 (by simp) fun w0 hw0 => ?_
  refine getD (b := b6) (d := dia ta) h0 (by simp) fun w1 hw1 => ?_
  have s := same_spec hw0 hw1 (dia_fit sc)
  rw [inc_within ka.1 kb.1 kc.1 fc] at s
  refine s.mono ?_
  clear s
  rintro _ F1 ⟨rfl, la⟩
  refine ⟨_, rfl, fun _ => ?_, fun h => by simp at h⟩
  have hF1 := h0.le la
  have lF1 := hle.trans la
  clear la
  refine getD (b := b6) (d := dia ta) hF1 (by simp) fun w0 hw0 => ?_
  refine getD (b := b7) (d := dia tb) hF1 (by simp) fun w1 hw1 => ?_
  have hF := hF1
  obtain ⟨w8, q8, hw8⟩ := hF (b8, dia tc) (by simp)
  refine ⟨w8, hw8.size, row_whole q8, ?_⟩
  have s := disjoint_spec hw0 hw1
  rw [miss_eq sa sb] at s
  refine s.mono ?_
  clear s
  rintro _ G ⟨rfl, la⟩
  have hG := hF1.le la
  have lG := lF1.trans la
  replace q8 := la _ _ q8
  replace hw8 := hw8.le la
  clear la
  refine ⟨_, rfl, row_whole q8, ?_⟩
  refine (constant_spec (F := G) false).mono ?_
  rintro _ G1 ⟨wf, rfl, hwf, la⟩
  have hG1 := hG.le la
  have lG1 := lG.trans la
  replace q8 := la _ _ q8
  replace hw8 := hw8.le la
  clear la
  refine ⟨_, rfl, row_whole q8, ?_⟩
  have s := same_spec hw8 hwf (dia_fit sc)
  rw [inc_disjoint ka.1 kb.1 kc.1 fc] at s
  refine s.mono ?_
  clear s
  rintro _ G2 ⟨rfl, la⟩
  have hG2 := hG1.le la
  have lG2 := lG1.trans la
  clear la
  refine ⟨_, rfl, fun _ => ?_, fun h => by simp at h⟩
  refine getD (b := b6) (d := dia ta) hG2 (by simp) fun w0 hw0 => ?_
  refine getD (b := b7) (d := dia tb) hG2 (by simp) fun w1 hw1 => ?_
  have s := same_spec hw0 hw1 (dia_fit sa)
  rw [inc_both ka.1 kb.1] at s
  refine s.mono ?_
  clear s
  rintro _ F2 ⟨rfl, la⟩
  rw [hbo]
  refine ⟨_, rfl, fun _ => ?_, fun h => by simp at h⟩
  have hF2 := hG2.le la
  have lF2 := lG2.trans la
  clear la
  refine getD (b := b8) (d := dia tc) hF2 (by simp) fun w0 hw0 => ?_
  refine getD (b := b7) (d := dia tb) hF2 (by simp) fun w1 hw1 => ?_
  have s := within_spec hw0 hw1
  rw [miss_eq sc sb] at s
  rw [inc_self fc] at s
  refine s.mono ?_
  clear s
  rintro _ F3 ⟨rfl, la⟩
  refine ⟨_, rfl, fun _ => ?_, fun h => by cases h⟩
  have hF3 := hF2.le la
  have lF3 := lF2.trans la
  clear la
  exact hR _ lF3
theorem inc_j1 {F0 F : PH} {b6 b7 : Nat} (ka : Sx 6 ta) (kb : Sx 6 tb) (hle : F0.le F) (h0 : Los F [(b7, dia tb), (b6, dia ta)]) {R : Value → PH → Prop} (hR : ∀ F', F0.le F' → R (.bool true) F') :
    b11j1 true (some (Addr.mk b6 0 none)) (some (Addr.mk b7 0 none)) R F := by
  have sa := ka.small (by omega)
  have sb := kb.small (by omega)
  have kc : Sx 6 (ap2 oAnd ta tb) := ka.ap2 kb
  have sc := kc.small (by omega)
  have ec : bin oAnd (dia ta) (dia tb) = (dia (ap2 oAnd ta tb), 0) := by rw [bin_ap sa sb]; exact lim_small sc
  have fc := (ap2_facts (o := oAnd) ka.1 kb.1).2
  generalize htc : ap2 oAnd ta tb = tc at *
  unfold b11j1
  refine ⟨_, rfl, ?_⟩
  refine getD (b := b6) (d := dia ta) h0 (by simp) fun w0 hw0 => ?_
  refine ⟨_, rfl, ?_⟩
  refine getD (b := b7) (d := dia tb) h0 (by simp) fun w1 hw1 => ?_
  have s := and_spec hw0 hw1
  rw [ec] at s
  refine s.mono ?_
  clear s
  rintro _ F1 ⟨⟨w, rfl, hw⟩, la⟩
  refine ⟨w, _, rfl, ?_⟩
  have hF1 := h0.le la
  have lF1 := hle.trans la
  clear la
  refine locD hw rfl hF1 fun b8 F2 lb hF2 hc => ?_
  have lF2 := lF1.trans lb
  clear hc hw lb
  refine getD (b := b6) (d := dia ta) hF2 (by simp) fun w0 hw0 => ?_
  refine getD (b := b7) (d := dia tb) hF2 (by simp) fun w1 hw1 => ?_
  have s := within_spec hw0 hw1
  rw [miss_eq sa sb] at s
  refine s.mono ?_
  clear s
  rintro _ F3 ⟨rfl, la⟩
  refine ⟨_, rfl, ?_⟩
  have hF3 := hF2.le la
  have lF3 := lF2.trans la
  clear la
  have key : ∀ (bo : Bool) (G : PH), F0.le G → Los G [(b8, dia tc), (b7, dia tb), (b6, dia ta)] → bo = (!hitB ta tb false && !hitB tb ta false) → b11j2 true (Addr.mk b6 0 none) (Addr.mk b7 0 none) b8 0 (!hitB ta tb false) bo R G := fun bo G lG hG hbo => inc_j2 ka kb kc fc lG hG hbo hR
  refine ⟨fun hw => ?_, fun hw => ?_⟩
  · refine getD (b := b7) (d := dia tb) hF3 (by simp) fun w0 hw0 => ?_
    refine getD (b := b6) (d := dia ta) hF3 (by simp) fun w1 hw1 => ?_
    have s := within_spec hw0 hw1
    rw [miss_eq sb sa] at s
    refine s.mono ?_
    rintro _ G ⟨rfl, la⟩
    refine ⟨_, rfl, ?_⟩
    refine key _ G (lF3.trans la) (hF3.le la) ?_
    rw [hw]; rfl
  · refine key false _ lF3 hF3 ?_
    rw [hw]; rfl
end
set_option maxHeartbeats 4000000 in
theorem inclusion_spec {F : PH} {s0 t0 : Array Value} {n0 n1 : Int} (hs : SetV F s0 n0) (ht : SetV F t0 n1) : Spec prog 11 #[.agg s0, .agg t0] F fun r F' => r = .bool true ∧ F.le F' := by
  refine c11 ?_
  unfold b11
  intro b3 hb3
  refine atI ?_
  have la := le_set_fresh (.cells s0 24) hb3
  have q3 := set_eq F b3 (.cells s0 24)
  generalize F.set b3 (.cells s0 24) = G at *
  intro b4 hb4
  refine atI ?_
  have lb := le_set_fresh (.cells t0 24) hb4
  have q4 := set_eq G b4 (.cells t0 24)
  replace q3 := lb _ _ q3
  have l2 := la.trans lb
  clear la lb
  generalize G.set b4 (.cells t0 24) = G2 at *
  refine (sanity_spec G2).mono ?_
  rintro _ F1 ⟨rfl, la⟩
  replace q3 := la _ _ q3
  replace q4 := la _ _ q4
  replace l2 := l2.trans la
  refine ⟨_, rfl, ?_⟩
  refine ⟨_, hs.size, row_whole q3, _, ht.size, row_whole q4, ?_⟩
  have fin : ∀ {F' : PH} {b8 b9 : Nat} {ta tb : Tr}, F1.le F' → Sx 6 ta → Sx 6 tb → Los F' [(b9, dia tb), (b8, dia ta)] → b11j1 true (some (Addr.mk b8 0 none)) (some (Addr.mk b9 0 none)) (fun r F' => r = .bool true ∧ F.le F') F' := fun hl ka kb h0 =>
    inc_j1 ka kb hl h0 fun F' h => ⟨rfl, l2.trans h⟩
  have hs1 := hs.le l2
  have ht1 := ht.le l2
  have st := RSt.start F1
  repeat' first
    | with_reducible refine ⟨R_row (by assumption) q3, ?_⟩
    | with_reducible refine ⟨R_row (by assumption) q4, ?_⟩
    | with_reducible refine R_alloc (by assumption) fun b F' h => ?_
    | with_reducible refine R_made (by assumption) hs1 fun w t F' h => ?_
    | with_reducible refine R_made (by assumption) ht1 fun w t F' h => ?_
    | with_reducible exact R_fin2 (by assumption) (by first | exact .inl rfl | exact .inr rfl) (by first | exact .inl rfl | exact .inr rfl) fun F' hl ka kb h0 => fin hl ka kb h0
    | with_reducible refine ⟨?_, ?_⟩
end Go.Proofs.Ytafojmoeaneedaa

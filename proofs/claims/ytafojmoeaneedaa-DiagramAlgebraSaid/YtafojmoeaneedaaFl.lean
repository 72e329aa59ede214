/-
  DiagramAlgebra: the walk.
-/
import Derived.Test.YtafojmoeaneedaaEt
import Derived.Test.YtafojmoeaneedaaFk
import Derived.Test.YtafojmoeaneedaaGL5
namespace Go.Proofs.Ytafojmoeaneedaa
open Go Go.Proofs.Try Tr
set_option maxRecDepth 10000

theorem bin_sx {o : Op2} {a b : Tr} (ka : Sx 6 a) (kb : Sx 6 b) : ∃ t, bin o (dia a) (dia b) = (dia t, 0) ∧ Sx 6 t ∧ ∀ x, t.ev x = o (a.ev x) (b.ev x) := by
  have k : Sx 6 (ap2 o a b) := ka.ap2 kb
  exact ⟨_, by rw [bin_ap (ka.small (by omega)) (kb.small (by omega))]; exact lim_small (k.small (by omega)), k, (ap2_facts ka.1 kb.1).2⟩
theorem not_sx {a : Tr} (ka : Sx 6 a) : ∃ t, bin (fun x _ => !x) (dia a) none0 = (dia t, 0) ∧ Sx 6 t ∧ ∀ x, t.ev x = !a.ev x := by
  obtain ⟨t, h1, h2, h3⟩ := bin_sx (o := fun x _ => !x) ka (Sx.leaf 6 false)
  exact ⟨t, by rw [dia_none0]; exact h1, h2, h3⟩
theorem same_true {a b : Tr} (ka : a.ok) (kb : b.ok) (h : ∀ x, a.ev x = b.ev x) : decide (dia a = dia b) = true := by
  rw [eq_of_ev ka kb h]
  simp
section
variable {t_a t_b t_c : Tr} {F0 F : PH}
theorem alg_d9 {b4 b5 b6 : Nat} (k_a : Sx 6 t_a) (k_b : Sx 6 t_b) (k_c : Sx 6 t_c) (hle : F0.le F) (h0 : Los F [(b6, dia t_c), (b5, dia t_b), (b4, dia t_a)]) {R : Value → PH → Prop} (hR : ∀ F', F0.le F' → R (.bool true) F') :
    b5d9 b4 b5 b6 true R F := by
  obtain ⟨t_and, e_and, k_and, f_and⟩ := bin_sx (o := oAnd) k_a k_b
  obtain ⟨t_back, e_back, k_back, f_back⟩ := bin_sx (o := oAnd) k_b k_a
  obtain ⟨t_or, e_or, k_or, f_or⟩ := bin_sx (o := oOr) k_a k_b
  obtain ⟨t_ac, e_ac, k_ac, f_ac⟩ := bin_sx (o := oAnd) k_a k_c
  obtain ⟨t_bc, e_bc, k_bc, f_bc⟩ := bin_sx (o := oOr) k_b k_c
  obtain ⟨t_left, e_left, k_left, f_left⟩ := bin_sx (o := oAnd) k_a k_bc
  obtain ⟨t_right, e_right, k_right, f_right⟩ := bin_sx (o := oOr) k_and k_ac
  obtain ⟨t_absd, e_absd, k_absd, f_absd⟩ := bin_sx (o := oOr) k_a k_and
  obtain ⟨t_na, e_na, k_na, f_na⟩ := not_sx k_a
  obtain ⟨t_nb, e_nb, k_nb, f_nb⟩ := not_sx k_b
  obtain ⟨t_nor, e_nor, k_nor, f_nor⟩ := not_sx k_or
  obtain ⟨t_both, e_both, k_both, f_both⟩ := bin_sx (o := oAnd) k_na k_nb
  obtain ⟨t_again, e_again, k_again, f_again⟩ := not_sx k_na
  obtain ⟨t_none, e_none, k_none, f_none⟩ := bin_sx (o := oAnd) k_a k_na
  obtain ⟨t_all, e_all, k_all, f_all⟩ := bin_sx (o := oOr) k_a k_na
  obtain ⟨t_xor, e_xor, k_xor, f_xor⟩ := bin_sx (o := oXor) k_a k_all
  unfold b5d9
  refine getD (b := b4) (d := dia t_a) h0 (by simp) fun w0 hw0 => ?_
  refine getD (b := b5) (d := dia t_b) h0 (by simp) fun w1 hw1 => ?_
  have s := and_spec hw0 hw1
  rw [e_and] at s
  refine s.mono ?_
  clear s
  rintro _ F1 ⟨⟨w, rfl, hw⟩, la⟩
  refine ⟨w, _, rfl, ?_⟩
  have hF1 := h0.le la
  have lF1 := hle.trans la
  clear la
  refine locD hw rfl hF1 fun b7 F2 lb hF2 hc => ?_
  have lF2 := lF1.trans lb
  clear hc hw lb
  refine getD (b := b5) (d := dia t_b) hF2 (by simp) fun w0 hw0 => ?_
  refine getD (b := b4) (d := dia t_a) hF2 (by simp) fun w1 hw1 => ?_
  have s := and_spec hw0 hw1
  rw [e_back] at s
  refine s.mono ?_
  clear s
  rintro _ F3 ⟨⟨w, rfl, hw⟩, la⟩
  refine ⟨w, _, rfl, ?_⟩
  have hF3 := hF2.le la
  have lF3 := lF2.trans la
  clear la
  refine locD hw rfl hF3 fun b9 F4 lb hF4 hc => ?_
  have lF4 := lF3.trans lb
  clear hc hw lb
  refine getD (b := b4) (d := dia t_a) hF4 (by simp) fun w0 hw0 => ?_
  refine getD (b := b5) (d := dia t_b) hF4 (by simp) fun w1 hw1 => ?_
  have s := or_spec hw0 hw1
  rw [e_or] at s
  refine s.mono ?_
  clear s
  rintro _ F5 ⟨⟨w, rfl, hw⟩, la⟩
  refine ⟨w, _, rfl, ?_⟩
  have hF5 := hF4.le la
  have lF5 := lF4.trans la
  clear la
  refine locD hw rfl hF5 fun b11 F6 lb hF6 hc => ?_
  have lF6 := lF5.trans lb
  clear hc hw lb
  refine getD (b := b4) (d := dia t_a) hF6 (by simp) fun w0 hw0 => ?_
  refine getD (b := b6) (d := dia t_c) hF6 (by simp) fun w1 hw1 => ?_
  have s := and_spec hw0 hw1
  rw [e_ac] at s
  refine s.mono ?_
  clear s
  rintro _ F7 ⟨⟨w, rfl, hw⟩, la⟩
  refine ⟨w, _, rfl, ?_⟩
  have hF7 := hF6.le la
  have lF7 := lF6.trans la
  clear la
  refine locD hw rfl hF7 fun b13 F8 lb hF8 hc => ?_
  have lF8 := lF7.trans lb
  clear hc hw lb
  refine getD (b := b5) (d := dia t_b) hF8 (by simp) fun w0 hw0 => ?_
  refine getD (b := b6) (d := dia t_c) hF8 (by simp) fun w1 hw1 => ?_
  have s := or_spec hw0 hw1
  rw [e_bc] at s
  refine s.mono ?_
  clear s
  rintro _ F9 ⟨⟨w, rfl, hw⟩, la⟩
  refine ⟨w, _, rfl, ?_⟩
  have hF9 := hF8.le la
  have lF9 := lF8.trans la
  clear la
  refine locD hw rfl hF9 fun b15 F10 lb hF10 hc => ?_
  have lF10 := lF9.trans lb
  clear hc hw lb
  refine getD (b := b4) (d := dia t_a) hF10 (by simp) fun w0 hw0 => ?_
  refine getD (b := b15) (d := dia t_bc) hF10 (by simp) fun w1 hw1 => ?_
  have s := and_spec hw0 hw1
  rw [e_left] at s
  refine s.mono ?_
  clear s
  rintro _ F11 ⟨⟨w, rfl, hw⟩, la⟩
  refine ⟨w, _, rfl, ?_⟩
  have hF11 := hF10.le la
  have lF11 := lF10.trans la
  clear la
  refine locD hw rfl hF11 fun b17 F12 lb hF12 hc => ?_
  have lF12 := lF11.trans lb
  clear hc hw lb
  refine getD (b := b7) (d := dia t_and) hF12 (by simp) fun w0 hw0 => ?_
  refine getD (b := b13) (d := dia t_ac) hF12 (by simp) fun w1 hw1 => ?_
  have s := or_spec hw0 hw1
  rw [e_right] at s
  refine s.mono ?_
  clear s
  rintro _ F13 ⟨⟨w, rfl, hw⟩, la⟩
  refine ⟨w, _, rfl, ?_⟩
  have hF13 := hF12.le la
  have lF13 := lF12.trans la
  clear la
  refine locD hw rfl hF13 fun b19 F14 lb hF14 hc => ?_
  have lF14 := lF13.trans lb
  clear hc hw lb
  refine getD (b := b4) (d := dia t_a) hF14 (by simp) fun w0 hw0 => ?_
  refine getD (b := b7) (d := dia t_and) hF14 (by simp) fun w1 hw1 => ?_
  have s := or_spec hw0 hw1
  rw [e_absd] at s
  refine s.mono ?_
  clear s
  rintro _ F15 ⟨⟨w, rfl, hw⟩, la⟩
  refine ⟨w, _, rfl, ?_⟩
  have hF15 := hF14.le la
  have lF15 := lF14.trans la
  clear la
  refine locD hw rfl hF15 fun b21 F16 lb hF16 hc => ?_
  have lF16 := lF15.trans lb
  clear hc hw lb
  refine getD (b := b4) (d := dia t_a) hF16 (by simp) fun w0 hw0 => ?_
  have s := not_spec hw0
  rw [e_na] at s
  refine s.mono ?_
  clear s
  rintro _ F17 ⟨⟨w, rfl, hw⟩, la⟩
  refine ⟨w, _, rfl, ?_⟩
  have hF17 := hF16.le la
  have lF17 := lF16.trans la
  clear la
  refine locD hw rfl hF17 fun b23 F18 lb hF18 hc => ?_
  have lF18 := lF17.trans lb
  clear hc hw lb
  refine getD (b := b5) (d := dia t_b) hF18 (by simp) fun w0 hw0 => ?_
  have s := not_spec hw0
  rw [e_nb] at s
  refine s.mono ?_
  clear s
  rintro _ F19 ⟨⟨w, rfl, hw⟩, la⟩
  refine ⟨w, _, rfl, ?_⟩
  have hF19 := hF18.le la
  have lF19 := lF18.trans la
  clear la
  refine locD hw rfl hF19 fun b25 F20 lb hF20 hc => ?_
  have lF20 := lF19.trans lb
  clear hc hw lb
  refine getD (b := b11) (d := dia t_or) hF20 (by simp) fun w0 hw0 => ?_
  have s := not_spec hw0
  rw [e_nor] at s
  refine s.mono ?_
  clear s
  rintro _ F21 ⟨⟨w, rfl, hw⟩, la⟩
  refine ⟨w, _, rfl, ?_⟩
  have hF21 := hF20.le la
  have lF21 := lF20.trans la
  clear la
  refine locD hw rfl hF21 fun b27 F22 lb hF22 hc => ?_
  have lF22 := lF21.trans lb
  clear hc hw lb
  refine getD (b := b23) (d := dia t_na) hF22 (by simp) fun w0 hw0 => ?_
  refine getD (b := b25) (d := dia t_nb) hF22 (by simp) fun w1 hw1 => ?_
  have s := and_spec hw0 hw1
  rw [e_both] at s
  refine s.mono ?_
  clear s
  rintro _ F23 ⟨⟨w, rfl, hw⟩, la⟩
  refine ⟨w, _, rfl, ?_⟩
  have hF23 := hF22.le la
  have lF23 := lF22.trans la
  clear la
  refine locD hw rfl hF23 fun b29 F24 lb hF24 hc => ?_
  have lF24 := lF23.trans lb
  clear hc hw lb
  refine getD (b := b23) (d := dia t_na) hF24 (by simp) fun w0 hw0 => ?_
  have s := not_spec hw0
  rw [e_again] at s
  refine s.mono ?_
  clear s
  rintro _ F25 ⟨⟨w, rfl, hw⟩, la⟩
  refine ⟨w, _, rfl, ?_⟩
  have hF25 := hF24.le la
  have lF25 := lF24.trans la
  clear la
  refine locD hw rfl hF25 fun b31 F26 lb hF26 hc => ?_
  have lF26 := lF25.trans lb
  clear hc hw lb
  refine getD (b := b4) (d := dia t_a) hF26 (by simp) fun w0 hw0 => ?_
  refine getD (b := b23) (d := dia t_na) hF26 (by simp) fun w1 hw1 => ?_
  have s := and_spec hw0 hw1
  rw [e_none] at s
  refine s.mono ?_
  clear s
  rintro _ F27 ⟨⟨w, rfl, hw⟩, la⟩
  refine ⟨w, _, rfl, ?_⟩
  have hF27 := hF26.le la
  have lF27 := lF26.trans la
  clear la
  refine locD hw rfl hF27 fun b33 F28 lb hF28 hc => ?_
  have lF28 := lF27.trans lb
  clear hc hw lb
  refine getD (b := b4) (d := dia t_a) hF28 (by simp) fun w0 hw0 => ?_
  refine getD (b := b23) (d := dia t_na) hF28 (by simp) fun w1 hw1 => ?_
  have s := or_spec hw0 hw1
  rw [e_all] at s
  refine s.mono ?_
  clear s
  rintro _ F29 ⟨⟨w, rfl, hw⟩, la⟩
  refine ⟨w, _, rfl, ?_⟩
  have hF29 := hF28.le la
  have lF29 := lF28.trans la
  clear la
  refine locD hw rfl hF29 fun b35 F30 lb hF30 hc => ?_
  have lF30 := lF29.trans lb
  clear hc hw lb
  refine getD (b := b4) (d := dia t_a) hF30 (by simp) fun w0 hw0 => ?_
  refine getD (b := b35) (d := dia t_all) hF30 (by simp) fun w1 hw1 => ?_
  have s := xor_spec hw0 hw1
  rw [e_xor] at s
  refine s.mono ?_
  clear s
  rintro _ F31 ⟨⟨w, rfl, hw⟩, la⟩
  refine ⟨w, _, rfl, ?_⟩
  have hF31 := hF30.le la
  have lF31 := lF30.trans la
  clear la
  refine locD hw rfl hF31 fun b37 F32 lb hF32 hc => ?_
  have lF32 := lF31.trans lb
  clear hc hw lb
  refine getD (b := b7) (d := dia t_and) hF32 (by simp) fun w0 hw0 => ?_
  refine getD (b := b9) (d := dia t_back) hF32 (by simp) fun w1 hw1 => ?_
  have s := same_spec hw0 hw1 (dia_fit (k_and.small (by omega)))
  rw [same_true k_and.1 k_back.1 fun x => by simp only [f_and, f_back]; (cases t_a.ev x <;> cases t_b.ev x <;> cases t_c.ev x <;> rfl)] at s
  refine s.mono ?_
  clear s
  rintro _ F33 ⟨rfl, la⟩
  have hF33 := hF32.le la
  have lF33 := lF32.trans la
  clear la
  refine ⟨_, rfl, fun _ => ?_, fun h => by cases h⟩
  refine getD (b := b17) (d := dia t_left) hF33 (by simp) fun w0 hw0 => ?_
  refine getD (b := b19) (d := dia t_right) hF33 (by simp) fun w1 hw1 => ?_
  have s := same_spec hw0 hw1 (dia_fit (k_left.small (by omega)))
  rw [same_true k_left.1 k_right.1 fun x => by simp only [f_and, f_ac, f_bc, f_left, f_right]; (cases t_a.ev x <;> cases t_b.ev x <;> cases t_c.ev x <;> rfl)] at s
  refine s.mono ?_
  clear s
  rintro _ F34 ⟨rfl, la⟩
  have hF34 := hF33.le la
  have lF34 := lF33.trans la
  clear la
  refine ⟨_, rfl, fun _ => ?_, fun h => by cases h⟩
  refine getD (b := b21) (d := dia t_absd) hF34 (by simp) fun w0 hw0 => ?_
  refine getD (b := b4) (d := dia t_a) hF34 (by simp) fun w1 hw1 => ?_
  have s := same_spec hw0 hw1 (dia_fit (k_absd.small (by omega)))
  rw [same_true k_absd.1 k_a.1 fun x => by simp only [f_and, f_absd]; (cases t_a.ev x <;> cases t_b.ev x <;> cases t_c.ev x <;> rfl)] at s
  refine s.mono ?_
  clear s
  rintro _ F35 ⟨rfl, la⟩
  have hF35 := hF34.le la
  have lF35 := lF34.trans la
  clear la
  refine ⟨_, rfl, fun _ => ?_, fun h => by cases h⟩
  refine getD (b := b27) (d := dia t_nor) hF35 (by simp) fun w0 hw0 => ?_
  refine getD (b := b29) (d := dia t_both) hF35 (by simp) fun w1 hw1 => ?_
  have s := same_spec hw0 hw1 (dia_fit (k_nor.small (by omega)))
  rw [same_true k_nor.1 k_both.1 fun x => by simp only [f_or, f_na, f_nb, f_nor, f_both]; (cases t_a.ev x <;> cases t_b.ev x <;> cases t_c.ev x <;> rfl)] at s
  refine s.mono ?_
  clear s
  rintro _ F36 ⟨rfl, la⟩
  have hF36 := hF35.le la
  have lF36 := lF35.trans la
  clear la
  refine ⟨_, rfl, fun _ => ?_, fun h => by cases h⟩
  refine getD (b := b31) (d := dia t_again) hF36 (by simp) fun w0 hw0 => ?_
  refine getD (b := b4) (d := dia t_a) hF36 (by simp) fun w1 hw1 => ?_
  have s := same_spec hw0 hw1 (dia_fit (k_again.small (by omega)))
  rw [same_true k_again.1 k_a.1 fun x => by simp only [f_na, f_again]; (cases t_a.ev x <;> cases t_b.ev x <;> cases t_c.ev x <;> rfl)] at s
  refine s.mono ?_
  clear s
  rintro _ F37 ⟨rfl, la⟩
  have hF37 := hF36.le la
  have lF37 := lF36.trans la
  clear la
  refine ⟨_, rfl, ?_⟩
  unfold b5j1
  refine ⟨fun _ => ?_, fun h => by cases h⟩
  obtain ⟨w8, q8, hw8⟩ := hF37 (b33, dia t_none) (by simp)
  refine ⟨w8, hw8.size, row_whole q8, ?_⟩
  refine (constant_spec (F := F37) false).mono ?_
  rintro _ F38 ⟨wf, rfl, hwf, la⟩
  have hF38 := hF37.le la
  have lF38 := lF37.trans la
  replace q8 := la _ _ q8
  replace hw8 := hw8.le la
  clear la
  refine ⟨_, rfl, row_whole q8, ?_⟩
  have s := same_spec hw8 hwf (dia_fit (k_none.small (by omega)))
  rw [same_true (b := leaf false) k_none.1 trivial fun x => by simp only [f_na, f_none, Tr.ev]; (cases t_a.ev x <;> cases t_b.ev x <;> cases t_c.ev x <;> rfl)] at s
  refine s.mono ?_
  clear s
  rintro _ F39 ⟨rfl, la⟩
  have hF39 := hF38.le la
  have lF39 := lF38.trans la
  clear la q8 hw8
  refine ⟨_, rfl, fun _ => ?_, fun h => by cases h⟩
  obtain ⟨w8, q8, hw8⟩ := hF39 (b35, dia t_all) (by simp)
  refine ⟨w8, hw8.size, row_whole q8, ?_⟩
  refine (constant_spec (F := F39) true).mono ?_
  rintro _ F40 ⟨wf, rfl, hwf, la⟩
  have hF40 := hF39.le la
  have lF40 := lF39.trans la
  replace q8 := la _ _ q8
  replace hw8 := hw8.le la
  clear la
  refine ⟨_, rfl, row_whole q8, ?_⟩
  have s := same_spec hw8 hwf (dia_fit (k_all.small (by omega)))
  rw [same_true (b := leaf true) k_all.1 trivial fun x => by simp only [f_na, f_all, Tr.ev]; (cases t_a.ev x <;> cases t_b.ev x <;> cases t_c.ev x <;> rfl)] at s
  refine s.mono ?_
  clear s
  rintro _ F41 ⟨rfl, la⟩
  have hF41 := hF40.le la
  have lF41 := lF40.trans la
  clear la q8 hw8
  refine ⟨_, rfl, fun _ => ?_, fun h => by cases h⟩
  refine getD (b := b37) (d := dia t_xor) hF41 (by simp) fun w0 hw0 => ?_
  refine getD (b := b23) (d := dia t_na) hF41 (by simp) fun w1 hw1 => ?_
  have s := same_spec hw0 hw1 (dia_fit (k_xor.small (by omega)))
  rw [same_true k_xor.1 k_na.1 fun x => by simp only [f_na, f_all, f_xor]; (cases t_a.ev x <;> cases t_b.ev x <;> cases t_c.ev x <;> rfl)] at s
  refine s.mono ?_
  clear s
  rintro _ F42 ⟨rfl, la⟩
  have hF42 := hF41.le la
  have lF42 := lF41.trans la
  exact ⟨_, rfl, fun _ => hR _ lF42, fun h => by cases h⟩
end
set_option maxHeartbeats 4000000 in
theorem algebra_spec {F : PH} {l : Array Value} {s0 s1 s2 : Array Value} {n0 n1 n2 : Int} (hl : SetsV F l s0 s1 s2 n0 n1 n2) : Spec prog 5 #[.agg l] F fun r F' => r = .bool true ∧ F.le F' := by
  refine c5 ?_
  unfold b5
  intro bl hbl
  refine atI ?_
  have la := le_set_fresh (.cells l 43) hbl
  have q := set_eq F bl (.cells l 43)
  generalize F.set bl (.cells l 43) = G at *
  refine (sanity_spec G).mono ?_
  rintro _ F1 ⟨rfl, lb⟩
  replace q := lb _ _ q
  have l1 := la.trans lb
  refine ⟨_, rfl, ?_⟩
  have hs0 := hl.s0.le l1
  have hs1 := hl.s1.le l1
  have hs2 := hl.s2.le l1
  have r0 : F1.row (Addr.add (Addr.mk bl 0 none) (Int.toNat (0 : Int) * 2)) s0 := hl.row q 0 rfl (by omega)
  have r1 : F1.row (Addr.add (Addr.mk bl 0 none) (Int.toNat (1 : Int) * 2)) s1 := hl.row q 1 rfl (by omega)
  have r2 : F1.row (Addr.add (Addr.mk bl 0 none) (Int.toNat (2 : Int) * 2)) s2 := hl.row q 2 rfl (by omega)
  refine ⟨by omega, by omega, s0, hs0.size, r0, by omega, by omega, s1, hs1.size, r1, by omega, by omega, s2, hs2.size, r2, ?_⟩
  have fin : ∀ {F' : PH} {zs : List Nat} {b c d : Nat} {w1 w2 w3 : Array Value} {t1 t2 t3 : Tr}, RSt F1 F' zs [(w3, t3), (w2, t2), (w1, t1)] → (zs = [b, c, d] ∨ zs = [b, d, c] ∨ zs = [c, b, d] ∨ zs = [c, d, b] ∨ zs = [d, b, c] ∨ zs = [d, c, b]) →
      b5d6 w1 b w2 c w3 d true (fun r F' => r = .bool true ∧ F.le F') F' := fun h hz => by
    unfold b5d6 b5d7 b5d8
    exact R_fin3 h hz fun F' hl' k1 k2 k3 h0 => alg_d9 k1 k2 k3 hl' h0 fun F'' h => ⟨rfl, l1.trans h⟩
  have st := RSt.start F1
  repeat' first
    | with_reducible refine ⟨row_le (RSt.le (by assumption)) r2, ?_⟩
    | with_reducible refine ⟨row_le (RSt.le (by assumption)) r1, ?_⟩
    | with_reducible refine R_alloc (by assumption) fun b F' h => ?_
    | with_reducible refine R_made (by assumption) hs0 fun w t F' h => ?_
    | with_reducible refine R_made (by assumption) hs1 fun w t F' h => ?_
    | with_reducible refine R_made (by assumption) hs2 fun w t F' h => ?_
    | with_reducible exact fin (by assumption) (.inl rfl)
    | with_reducible exact fin (by assumption) (.inr (.inl rfl))
    | with_reducible exact fin (by assumption) (.inr (.inr (.inl rfl)))
    | with_reducible exact fin (by assumption) (.inr (.inr (.inr (.inl rfl))))
    | with_reducible exact fin (by assumption) (.inr (.inr (.inr (.inr (.inl rfl)))))
    | with_reducible exact fin (by assumption) (.inr (.inr (.inr (.inr (.inr rfl)))))
    | with_reducible refine ⟨?_, ?_, ?_, ?_⟩
    | with_reducible refine ⟨?_, ?_, ?_⟩
    | with_reducible refine ⟨?_, ?_⟩
    | unfold b5d1
    | unfold b5d2
    | unfold b5d3
    | unfold b5d4
    | unfold b5d5
    | unfold b5d10
    | unfold b5d11
    | unfold b5d12
    | unfold b5d13
    | unfold b5d14
    | unfold b5d15
    | unfold b5d16
    | unfold b5d17
    | unfold b5d18
    | unfold b5d19
    | unfold b5d20
    | unfold b5d21
    | unfold b5d22
    | unfold b5d23
    | unfold b5d24
    | unfold b5d25
    | unfold b5d26
    | unfold b5d27
    | unfold b5d28
    | unfold b5d29
    | unfold b5d30
    | unfold b5d31
    | unfold b5d32
    | unfold b5d33
    | unfold b5d34
end Go.Proofs.Ytafojmoeaneedaa

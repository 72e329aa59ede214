/-
  The diagrams: the examples of the chapter.
-/
import Derived.Test.YtafojmoeaneedaaEs
namespace Go.Proofs.Ytafojmoeaneedaa
open Go Go.Proofs.Try Tr
set_option maxRecDepth 10000

abbrev tL : Tr := leaf false
abbrev tH : Tr := leaf true
abbrev tX : Tr := tv 0
abbrev tY : Tr := tv 1
abbrev tAnd : Tr := node 0 tL (tv 1)
abbrev tOr : Tr := node 0 (tv 1) tH
abbrev tXor : Tr := node 0 (tv 1) (node 1 tH tL)
abbrev tNot : Tr := node 0 tH tL
theorem sX : Small tX := tv_small (by omega)
theorem sY : Small tY := tv_small (by omega)
theorem okAnd : tAnd.ok := ⟨by omega, by simp [top], by simp [top], by simp, trivial, ok_tv (by omega)⟩
theorem okOr : tOr.ok := ⟨by omega, by simp [top], by simp [top], by simp, ok_tv (by omega), trivial⟩
theorem okXor : tXor.ok := ⟨by omega, by simp [top], by simp [top], by simp, ok_tv (by omega), ⟨by omega, by simp [top], by simp [top], by simp, trivial, trivial⟩⟩
theorem okNot : tNot.ok := ⟨by omega, by simp [top], by simp [top], by simp, trivial, trivial⟩
theorem sAnd : Small tAnd := small_of okAnd (by simp [cnt])
theorem sOr : Small tOr := small_of okOr (by simp [cnt])
theorem sXor : Small tXor := small_of okXor (by simp [cnt])
theorem sNot : Small tNot := small_of okNot (by simp [cnt])
theorem eAnd : bin oAnd (dia tX) (dia tY) = (dia tAnd, 0) := bin_eq sX sY sAnd fun c => by
  cases h0 : c 0 <;> cases h1 : c 1 <;> simp [Tr.ev, h0, h1]
theorem eOr : bin oOr (dia tX) (dia tY) = (dia tOr, 0) := bin_eq sX sY sOr fun c => by
  cases h0 : c 0 <;> cases h1 : c 1 <;> simp [Tr.ev, h0, h1]
theorem eXor : bin oXor (dia tX) (dia tY) = (dia tXor, 0) := bin_eq sX sY sXor fun c => by
  cases h0 : c 0 <;> cases h1 : c 1 <;> simp [Tr.ev, h0, h1]
theorem eNot : bin (fun x _ => !x) (dia tX) none0 = (dia tNot, 0) := by
  rw [dia_none0]
  exact bin_eq sX (leaf_small _) sNot fun c => by
    cases h0 : c 0 <;> simp [Tr.ev, h0]
theorem eHigh : resD (dia tOr) 0 true = (dia tH, 0) := res_eq (v := 0) sOr (by omega) (leaf_small _) fun c => by simp [Tr.ev, Cf.set]
theorem eLow : resD (dia tOr) 0 false = (dia tY, 0) := res_eq (v := 0) sOr (by omega) sY fun c => by simp [Tr.ev, Cf.set]
theorem eSome : exD (dia tAnd) 1 = (dia tX, 0) := ex_eq (v := 1) sAnd (by omega) sX fun c => by
  cases h0 : c 0 <;> simp [Tr.ev, Cf.set, h0]
theorem eC2 : countD (dia tOr) 2 = (3, 0) := by
  have := count_eq (n := 2) sOr (by omega) ⟨by omega, ⟨by omega, trivial, trivial⟩, trivial⟩
  simpa [countT, cv, top] using this
theorem eC3 : countD (dia tOr) 3 = (6, 0) := by
  have := count_eq (n := 3) sOr (by omega) ⟨by omega, ⟨by omega, trivial, trivial⟩, trivial⟩
  simpa [countT, cv, top] using this
theorem eC1 : countD (dia tOr) 1 = (0, 1) := by
  unfold countD
  rw [chk_small sOr, if_neg (by simp), if_neg (by omega), tre_dia sOr.1, if_neg]
  rintro ⟨_, ⟨h, _⟩, _⟩
  simp at h
theorem eLx : leastD (dia tXor) = (1, true) := by rw [least_eq sXor, if_neg (by simp)]; simp [leastT]
theorem eLa : leastD (dia tAnd) = (3, true) := by rw [least_eq sAnd, if_neg (by simp)]; simp [leastT]
theorem eLn : leastD (dia tNot) = (0, true) := by rw [least_eq sNot, if_neg (by simp)]; simp [leastT]
theorem dX : dia tX = ([⟨0, 0, 1⟩], 2) := by decide
theorem dNot : dia tNot = ([⟨0, 1, 0⟩], 2) := by decide
theorem dAnd : dia tAnd = ([⟨1, 0, 1⟩, ⟨0, 0, 2⟩], 3) := by decide
theorem dOr : dia tOr = ([⟨1, 0, 1⟩, ⟨0, 2, 1⟩], 3) := by decide
theorem dXor : dia tXor = ([⟨1, 0, 1⟩, ⟨1, 1, 0⟩, ⟨0, 2, 3⟩], 4) := by decide
theorem cBad1 : chk ([⟨0, 0, 0⟩], 2) = 20 := by
  unfold chk
  rw [if_neg (by simp), if_neg]
  intro hv
  have hf := fits_of_valid hv (S := []) .nil (k := 0) rfl (by simp) (by simp [brs])
  exact (fits_facts .nil hf).2.2.2.2.2.2.1 rfl
theorem cBad2 : chk ([⟨0, 0, 1⟩], 1) = 20 := by
  unfold chk
  rw [if_neg (by simp), if_neg]
  rintro ⟨t, ht, he⟩
  unfold dia at he
  simp only [Prod.mk.injEq] at he
  obtain ⟨h1, h2⟩ := he
  have : t.isL = true := num_lt2 (S := subs t) (by omega)
  cases t with
  | node _ _ _ => cases this
  | leaf b => simp [subs, vis, brs] at h1
theorem hOr : holdsD (dia tOr) 2 = true := by rw [holds_eq sOr]; decide
theorem hAnd : holdsD (dia tAnd) 2 = false := by rw [holds_eq sAnd]; decide
theorem lm3 : lm 3 = [3] := by rw [lm_pos (by omega), Nat.div_eq_of_lt (by omega), lm_zero]
theorem lm6 : lm 6 = [6] := by rw [lm_pos (by omega), Nat.div_eq_of_lt (by omega), lm_zero]

theorem isB {F : PH} {w A : Array Value} {d : Dia} {bs : List Br} {root : Int} {n : Nat} {K : Value → PH → Prop} (hd : DV F w d) (hA : A.toList = bflat bs) (hn : bs.length = n) (hl : Fit d.1.length) (he : d = (bs, root))
    (hK : ∀ F', F.le F' → K (.bool true) F') : ∀ x, F x = none → atF (F.set x (.cells A 72)) fun F => Spec prog 58 #[.agg w, vi root, (Sl.mk (some ⟨x, 0, none⟩) n n).v] F K := by
  intro x hx
  refine atI ?_
  have lx := le_set_fresh (.cells A 72) hx
  subst hn
  refine (is_spec (hd.le lx) (bs := bs) (root := root) (RdS.new (set_eq _ _ _) (by rw [hA]; exact List.take_of_length_le (by rw [bflat_length]; omega)) (by rw [bflat_length]) (Nat.le_refl _)) hl).mono ?_
  rintro _ F' ⟨rfl, l2⟩
  rw [he]
  simp only [decide_true]
  exact hK F' (lx.trans l2)

section
variable {F : PH} {l : List (Nat × Dia)} {R : Value → PH → Prop} {b1 b3 b7 b9 b11 b13 b15' b17 b19 : Nat}
theorem san4 (hl : Los F l) (m7 : (b7, dia tAnd) ∈ l) (m9 : (b9, dia tOr) ∈ l) (hR : ∀ F', F.le F' → R (.bool true) F') : b15j4 b7 b9 true true true true R F := by
  unfold b15j4
  refine ⟨fun _ => ⟨fun _ => ⟨fun _ => ⟨fun _ => ?_, fun h => by cases h⟩, fun h => by cases h⟩, fun h => by cases h⟩, fun h => by cases h⟩
  refine getD hl m9 fun w hw => ?_
  refine (holds_spec hw (c := 2) (by omega) (by omega)).mono ?_
  rintro _ F1 ⟨rfl, l1⟩
  rw [hOr]
  refine ⟨_, rfl, fun _ => ?_, fun h => by cases h⟩
  refine getD (hl.le l1) m7 fun w hw => ?_
  refine (holds_spec hw (c := 2) (by omega) (by omega)).mono ?_
  rintro _ F2 ⟨rfl, l2⟩
  rw [hAnd]
  exact ⟨_, rfl, hR _ (l1.trans l2)⟩
theorem san3 (hl : Los F l) (m7 : (b7, dia tAnd) ∈ l) (m9 : (b9, dia tOr) ∈ l) (hR : ∀ F', F.le F' → R (.bool true) F') : b15j3 b7 b9 true true true R F := by
  unfold b15j3
  refine ⟨rfl, fun x hx => ?_⟩
  refine atI ?_
  have lx := le_set_fresh (.cells #[Value.int .i64 0, Value.int .i64 0, Value.int .i64 0] 72) hx
  refine (check_spec (d := ([⟨0, 0, 0⟩], 2)) ⟨_, rfl, RdS.new (set_eq _ _ _) rfl rfl (Nat.le_refl _)⟩).mono ?_
  rintro _ F1 ⟨rfl, l1⟩
  rw [cBad1]
  refine ⟨_, rfl, fun _ => ⟨rfl, fun y hy => ?_⟩, fun h => absurd rfl h⟩
  refine atI ?_
  have ly := le_set_fresh (.cells #[Value.int .i64 0, Value.int .i64 0, Value.int .i64 1] 72) hy
  refine (check_spec (d := ([⟨0, 0, 1⟩], 1)) ⟨_, rfl, RdS.new (set_eq _ _ _) rfl rfl (Nat.le_refl _)⟩).mono ?_
  rintro _ F2 ⟨rfl, l2⟩
  rw [cBad2]
  have lt := (lx.trans l1).trans (ly.trans l2)
  refine ⟨_, rfl, ?_⟩
  rw [show decide ((20 : Int) = 20) = true from rfl]
  exact san4 (hl.le lt) m7 m9 fun F' h => hR F' (lt.trans h)
theorem san2 {s2 s3 : Sl} (hl : Los F l) (m1 : (b1, dia tX) ∈ l) (m3 : (b3, dia tY) ∈ l) (m7 : (b7, dia tAnd) ∈ l) (m9 : (b9, dia tOr) ∈ l) (m15 : (b15', dia tH) ∈ l) (m17 : (b17, dia tY) ∈ l) (m19 : (b19, dia tX) ∈ l)
    (h2 : NV F s2 3) (h3 : NV F s3 6) (hR : ∀ F', F.le F' → R (.bool true) F') : b15j2 b1 b3 b7 b9 b15' b17 b19 s2 s3 1 3 0 true true true R F := by
  unfold b15j2
  refine getD hl m15 fun w hw => ?_
  refine (is_spec hw (l := Sl.nil) (bs := []) (root := 1) (RdS.nil _ _) (dia_fit (leaf_small _))).mono ?_
  rintro _ F1 ⟨rfl, l1⟩
  refine ⟨_, rfl, fun _ => ?_, fun h => by simp [dia_leaf] at h⟩
  refine getD (hl.le l1) m17 fun w hw => getD (hl.le l1) m3 fun u hu => ?_
  refine (rsame_spec hw hu (dia_fit sY)).mono ?_
  rintro _ F2 ⟨rfl, l2⟩
  replace l2 := l1.trans l2
  refine ⟨_, rfl, fun _ => ?_, fun h => by simp at h⟩
  refine getD (hl.le l2) m19 fun w hw => getD (hl.le l2) m1 fun u hu => ?_
  refine (rsame_spec hw hu (dia_fit sX)).mono ?_
  rintro _ F3 ⟨rfl, l3⟩
  replace l3 := l2.trans l3
  refine ⟨_, rfl, fun _ => ?_, fun h => by simp at h⟩
  have n2 := h2.le l3
  have n3 := h3.le l3
  unfold NV at n2 n3
  rw [lm3] at n2
  rw [lm6] at n3
  have e2 := n2.ulen
  have e3 := n3.ulen
  obtain ⟨p, hp, hpc⟩ := n2.u32 (i := 0) (x := 3) rfl
  obtain ⟨q, hq, hqc⟩ := n3.u32 (i := 0) (x := 6) rfl
  refine ⟨fun _ => ⟨p, hp, by omega, by simp [e2], _, hpc, fun _ => ⟨fun _ => ⟨q, hq, by omega, by simp [e3], _, hqc, fun _ => ⟨fun _ => ⟨fun _ => ⟨fun _ => ?_, fun h => absurd rfl h⟩, fun h => absurd rfl h⟩, fun h => absurd rfl h⟩, fun h => absurd rfl h⟩, fun h => by simp [e3] at h⟩, fun h => absurd rfl h⟩, fun h => by simp [e2] at h⟩
  exact san3 (hl.le l3) m7 m9 fun F' h => hR F' (l3.trans h)
theorem san1 {s2 s3 : Sl} (hl : Los F l) (m1 : (b1, dia tX) ∈ l) (m3 : (b3, dia tY) ∈ l) (m7 : (b7, dia tAnd) ∈ l) (m9 : (b9, dia tOr) ∈ l) (m11 : (b11, dia tXor) ∈ l) (m13 : (b13, dia tNot) ∈ l) (m15 : (b15', dia tH) ∈ l) (m17 : (b17, dia tY) ∈ l) (m19 : (b19, dia tX) ∈ l)
    (h2 : NV F s2 3) (h3 : NV F s3 6) (hR : ∀ F', F.le F' → R (.bool true) F') : b15j1 b1 b3 b7 b9 b11 b13 b15' b17 b19 s2 s3 1 3 0 true true R F := by
  unfold b15j1
  refine getD hl m1 fun w hw => ⟨rfl, isB hw (bs := [⟨0, 0, 1⟩]) rfl rfl (dia_fit sX) dX fun F1 l1 => ⟨_, rfl, fun _ => ?_, fun h => by cases h⟩⟩
  refine getD (hl.le l1) m13 fun w hw => ⟨rfl, isB hw (bs := [⟨0, 1, 0⟩]) rfl rfl (dia_fit sNot) dNot fun F2 l2 => ⟨_, rfl, fun _ => ?_, fun h => by cases h⟩⟩
  replace l2 := l1.trans l2
  refine getD (hl.le l2) m7 fun w hw => ⟨rfl, rfl, isB hw (bs := [⟨1, 0, 1⟩, ⟨0, 0, 2⟩]) rfl rfl (dia_fit sAnd) dAnd fun F3 l3 => ⟨_, rfl, fun _ => ?_, fun h => by cases h⟩⟩
  replace l3 := l2.trans l3
  refine getD (hl.le l3) m9 fun w hw => ⟨rfl, rfl, isB hw (bs := [⟨1, 0, 1⟩, ⟨0, 2, 1⟩]) rfl rfl (dia_fit sOr) dOr fun F4 l4 => ⟨_, rfl, fun _ => ?_, fun h => by cases h⟩⟩
  replace l4 := l3.trans l4
  refine getD (hl.le l4) m11 fun w hw => ⟨rfl, rfl, rfl, isB hw (bs := [⟨1, 0, 1⟩, ⟨1, 1, 0⟩, ⟨0, 2, 3⟩]) rfl rfl (dia_fit sXor) dXor fun F5 l5 => ⟨_, rfl, ?_⟩⟩
  replace l5 := l4.trans l5
  exact san2 (hl.le l5) m1 m3 m7 m9 m15 m17 m19 (h2.le l5) (h3.le l5) fun F' h => hR F' (l5.trans h)
end

theorem sanity_spec (F : PH) : Spec prog 15 #[] F fun r F' => r = .bool true ∧ F.le F' := by
  refine c15 ?_
  unfold b15
  have ev0 : varD 0 = (dia tX, 0) := varD_eq (v := 0) (by omega)
  have ev1 : varD 1 = (dia tY, 0) := varD_eq (v := 1) (by omega)
  have ev64 : varD 64 = (none0, 1) := rfl
  have s := var_spec (F := F) 0
  rw [ev0] at s
  refine s.mono ?_
  clear s
  rintro _ F1 ⟨⟨w, rfl, hw⟩, la⟩
  refine ⟨w, _, rfl, ?_⟩
  refine locD hw rfl (Los.nil _) fun b1 F2 lb hF2 hc => ?_
  have lF2 := la.trans lb
  clear hc hw la lb
  have s := var_spec (F := F2) 1
  rw [ev1] at s
  refine s.mono ?_
  clear s
  rintro _ F3 ⟨⟨w, rfl, hw⟩, la⟩
  refine ⟨w, _, rfl, ?_⟩
  refine locD hw rfl (hF2.le la) fun b3 F4 lb hF4 hc => ?_
  have lF4 := (lF2.trans la).trans lb
  clear hc hw la lb
  have s := var_spec (F := F4) 64
  rw [ev64] at s
  refine s.mono ?_
  clear s
  rintro _ F5 ⟨⟨w, rfl, hw⟩, la⟩
  refine ⟨w, _, rfl, ?_⟩
  refine locD hw rfl (hF4.le la) fun b5 F6 lb hF6 hc => ?_
  have lF6 := (lF4.trans la).trans lb
  clear hc hw la lb
  refine getD (b := b1) (d := dia tX) hF6 (by simp) fun w0 hw0 => ?_
  refine getD (b := b3) (d := dia tY) hF6 (by simp) fun w1 hw1 => ?_
  have s := and_spec hw0 hw1
  rw [eAnd] at s
  refine s.mono ?_
  clear s
  rintro _ F7 ⟨⟨w, rfl, hw⟩, la⟩
  refine ⟨w, _, rfl, ?_⟩
  refine locD hw rfl (hF6.le la) fun b7 F8 lb hF8 hc => ?_
  have lF8 := (lF6.trans la).trans lb
  clear hc hw la lb
  refine getD (b := b1) (d := dia tX) hF8 (by simp) fun w0 hw0 => ?_
  refine getD (b := b3) (d := dia tY) hF8 (by simp) fun w1 hw1 => ?_
  have s := or_spec hw0 hw1
  rw [eOr] at s
  refine s.mono ?_
  clear s
  rintro _ F9 ⟨⟨w, rfl, hw⟩, la⟩
  refine ⟨w, _, rfl, ?_⟩
  refine locD hw rfl (hF8.le la) fun b9 F10 lb hF10 hc => ?_
  have lF10 := (lF8.trans la).trans lb
  clear hc hw la lb
  refine getD (b := b1) (d := dia tX) hF10 (by simp) fun w0 hw0 => ?_
  refine getD (b := b3) (d := dia tY) hF10 (by simp) fun w1 hw1 => ?_
  have s := xor_spec hw0 hw1
  rw [eXor] at s
  refine s.mono ?_
  clear s
  rintro _ F11 ⟨⟨w, rfl, hw⟩, la⟩
  refine ⟨w, _, rfl, ?_⟩
  refine locD hw rfl (hF10.le la) fun b11 F12 lb hF12 hc => ?_
  have lF12 := (lF10.trans la).trans lb
  clear hc hw la lb
  refine getD (b := b1) (d := dia tX) hF12 (by simp) fun w0 hw0 => ?_
  have s := not_spec hw0
  rw [eNot] at s
  refine s.mono ?_
  clear s
  rintro _ F13 ⟨⟨w, rfl, hw⟩, la⟩
  refine ⟨w, _, rfl, ?_⟩
  refine locD hw rfl (hF12.le la) fun b13 F14 lb hF14 hc => ?_
  have lF14 := (lF12.trans la).trans lb
  clear hc hw la lb
  refine getD (b := b9) (d := dia tOr) hF14 (by simp) fun w0 hw0 => ?_
  have s := restrict_spec hw0 0 true
  rw [eHigh] at s
  refine s.mono ?_
  clear s
  rintro _ F15 ⟨⟨w, rfl, hw⟩, la⟩
  refine ⟨w, _, rfl, ?_⟩
  refine locD hw rfl (hF14.le la) fun b15 F16 lb hF16 hc => ?_
  have lF16 := (lF14.trans la).trans lb
  clear hc hw la lb
  refine getD (b := b9) (d := dia tOr) hF16 (by simp) fun w0 hw0 => ?_
  have s := restrict_spec hw0 0 false
  rw [eLow] at s
  refine s.mono ?_
  clear s
  rintro _ F17 ⟨⟨w, rfl, hw⟩, la⟩
  refine ⟨w, _, rfl, ?_⟩
  refine locD hw rfl (hF16.le la) fun b17 F18 lb hF18 hc => ?_
  have lF18 := (lF16.trans la).trans lb
  clear hc hw la lb
  refine getD (b := b7) (d := dia tAnd) hF18 (by simp) fun w0 hw0 => ?_
  have s := exists_spec hw0 1
  rw [eSome] at s
  refine s.mono ?_
  clear s
  rintro _ F19 ⟨⟨w, rfl, hw⟩, la⟩
  refine ⟨w, _, rfl, ?_⟩
  refine locD hw rfl (hF18.le la) fun b19 F20 lb hF20 hc => ?_
  have lF20 := (lF18.trans la).trans lb
  clear hc hw la lb
  refine getD (b := b9) (d := dia tOr) hF20 (by simp) fun w0 hw0 => ?_
  have s := count_spec hw0 2
  rw [eC2] at s
  refine s.mono ?_
  clear s
  rintro _ F21 ⟨s2, rfl, n2, la⟩
  refine ⟨_, _, rfl, ?_⟩
  have hF21 := hF20.le la
  have lF21 := lF20.trans la
  clear la
  refine getD (b := b9) (d := dia tOr) hF21 (by simp) fun w0 hw0 => ?_
  have s := count_spec hw0 3
  rw [eC3] at s
  refine s.mono ?_
  clear s
  rintro _ F22 ⟨s3, rfl, n3, la⟩
  refine ⟨_, _, rfl, ?_⟩
  have hF22 := hF21.le la
  have lF22 := lF21.trans la
  replace n2 := n2.le la
  clear la
  refine getD (b := b9) (d := dia tOr) hF22 (by simp) fun w0 hw0 => ?_
  have s := count_spec hw0 1
  rw [eC1] at s
  refine s.mono ?_
  clear s
  rintro _ F23 ⟨s1, rfl, n1, la⟩
  refine ⟨_, _, rfl, ?_⟩
  have hF23 := hF22.le la
  have lF23 := lF22.trans la
  replace n2 := n2.le la
  replace n3 := n3.le la
  clear la n1
  refine getD (b := b11) (d := dia tXor) hF23 (by simp) fun w0 hw0 => ?_
  have s := least_spec hw0
  rw [eLx] at s
  refine s.mono ?_
  clear s
  rintro _ F24 ⟨rfl, la⟩
  refine ⟨_, _, rfl, ?_⟩
  have hF24 := hF23.le la
  have lF24 := lF23.trans la
  replace n2 := n2.le la
  replace n3 := n3.le la
  clear la
  refine getD (b := b7) (d := dia tAnd) hF24 (by simp) fun w0 hw0 => ?_
  have s := least_spec hw0
  rw [eLa] at s
  refine s.mono ?_
  clear s
  rintro _ F25 ⟨rfl, la⟩
  refine ⟨_, _, rfl, ?_⟩
  have hF25 := hF24.le la
  have lF25 := lF24.trans la
  replace n2 := n2.le la
  replace n3 := n3.le la
  clear la
  refine getD (b := b13) (d := dia tNot) hF25 (by simp) fun w0 hw0 => ?_
  have s := least_spec hw0
  rw [eLn] at s
  refine s.mono ?_
  clear s
  rintro _ F26 ⟨rfl, la⟩
  refine ⟨_, _, rfl, ?_⟩
  have hF26 := hF25.le la
  have lF26 := lF25.trans la
  replace n2 := n2.le la
  replace n3 := n3.le la
  clear la
  refine ⟨fun _ => ⟨fun _ => ⟨fun _ => ⟨fun _ => ⟨fun _ => ⟨fun _ => ⟨fun _ => ?_, fun h => absurd rfl h⟩, fun h => absurd rfl h⟩, fun h => absurd rfl h⟩, fun h => absurd rfl h⟩, fun h => absurd rfl h⟩, fun h => absurd rfl h⟩, fun h => absurd rfl h⟩
  rw [show decide ((1 : Int) = 1) = true from rfl]
  exact san1 hF26 (by simp) (by simp) (by simp) (by simp) (by simp) (by simp) (by simp) (by simp) (by simp) n2 n3 fun F' h => ⟨rfl, lF26.trans h⟩
end Go.Proofs.Ytafojmoeaneedaa

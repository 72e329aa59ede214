/-
  DiagramOperations: the walk.
-/
import Derived.Test.YtafojmoeaneedaaEt
import Derived.Test.YtafojmoeaneedaaFk
import Derived.Test.YtafojmoeaneedaaGL4
namespace Go.Proofs.Ytafojmoeaneedaa
open Go Go.Proofs.Try Tr
set_option maxRecDepth 10000

section
variable {ta tb td tn tc to tx th : Tr} {cc : Int} {F0 F : PH}
theorem ops_j2 {b12 b14 b16 b18 b20 : Nat} {x y z ch : Bool} (hc0 : 0 ≤ cc) (hc1 : cc < 18446744073709551616) (sn : Small tn) (sc : Small tc) (so : Small to) (sx : Small tx) (sh : Small th) (fn : tn.ev (cfg cc) = !x) (fc : tc.ev (cfg cc) = oAnd x y)
    (fo : to.ev (cfg cc) = oOr x y) (fx : tx.ev (cfg cc) = oXor x y) (fh : th.ev (cfg cc) = oCho x y z) (hch : ch = if x = true then y else z) (hle : F0.le F) (h0 : Los F ([(b20, dia th), (b18, dia tx), (b16, dia to), (b14, dia tc), (b12, dia tn)]))
    {R : Value → PH → Prop} (hR : ∀ F', F0.le F' → R (.bool true) F') : b4j2 cc true x y b12 b14 b16 b18 b20 true ch R F := by
  unfold b4j2
  refine getD (b := b14) (d := dia tc) h0 (by simp) fun w0 hw0 => ?_
  have s := holds_spec hw0 (c := cc) (by omega) (by omega)
  rw [holds_eq sc, fc] at s
  refine s.mono ?_
  clear s
  rintro _ F1 ⟨rfl, la⟩
  have hF1 := h0.le la
  have lF1 := hle.trans la
  clear la
  refine ⟨_, rfl, ?_⟩
  have key : ∀ F, F0.le F → Los F [(b20, dia th), (b18, dia tx), (b16, dia to), (b14, dia tc), (b12, dia tn)] → b4j3 cc true x b12 b20 true ch true R F := fun F hle h0 => by
    unfold b4j3
    refine ⟨fun _ => ⟨fun _ => ?_, fun h => by cases h⟩, fun h => by cases h⟩
    refine getD (b := b12) (d := dia tn) h0 (by simp) fun w0 hw0 => ?_
    have s := holds_spec hw0 (c := cc) (by omega) (by omega)
    rw [holds_eq sn, fn] at s
    refine s.mono ?_
    clear s
    rintro _ F1 ⟨rfl, la⟩
    have hF1 := h0.le la
    have lF1 := hle.trans la
    clear la
    refine ⟨_, rfl, fun _ => ?_, fun h => by simp at h⟩
    refine getD (b := b20) (d := dia th) hF1 (by simp) fun w0 hw0 => ?_
    have s := holds_spec hw0 (c := cc) (by omega) (by omega)
    rw [holds_eq sh, fh] at s
    refine s.mono ?_
    clear s
    rintro _ F2 ⟨rfl, la⟩
    have hF2 := hF1.le la
    have lF2 := lF1.trans la
    clear la
    refine ⟨_, rfl, fun _ => hR _ lF2, fun h => ?_⟩
    rw [hch] at h
    cases x <;> simp [oCho] at h
  constructor
  · intro hx
    subst hx
    refine ⟨fun _ => ?_, fun h => ?_⟩
    · skip
      refine getD (b := b16) (d := dia to) hF1 (by simp) fun w0 hw0 => ?_
      have s := holds_spec hw0 (c := cc) (by omega) (by omega)
      rw [holds_eq so, fo] at s
      refine s.mono ?_
      clear s
      rintro _ F2 ⟨rfl, la⟩
      have hF2 := hF1.le la
      have lF2 := lF1.trans la
      clear la
      refine ⟨_, rfl, fun _ => ?_, fun h => ?_⟩
      · skip
        refine getD (b := b18) (d := dia tx) hF2 (by simp) fun w0 hw0 => ?_
        have s := holds_spec hw0 (c := cc) (by omega) (by omega)
        rw [holds_eq sx, fx] at s
        refine s.mono ?_
        clear s
        rintro _ F3 ⟨rfl, la⟩
        have hF3 := hF2.le la
        have lF3 := lF2.trans la
        clear la
        refine ⟨_, rfl, ?_⟩
        have e : (oXor true y == (!(true == y))) = true := by cases y <;> rfl
        rw [e]
        exact key _ lF3 hF3
      · exfalso; cases y <;> simp [oOr] at h
    · exfalso; cases y <;> simp [oAnd] at h
  · intro hx
    subst hx
    refine ⟨fun _ => ?_, fun h => ?_⟩
    · skip
      refine getD (b := b16) (d := dia to) hF1 (by simp) fun w0 hw0 => ?_
      have s := holds_spec hw0 (c := cc) (by omega) (by omega)
      rw [holds_eq so, fo] at s
      refine s.mono ?_
      clear s
      rintro _ F2 ⟨rfl, la⟩
      have hF2 := hF1.le la
      have lF2 := lF1.trans la
      clear la
      refine ⟨_, rfl, fun _ => ?_, fun h => ?_⟩
      · skip
        refine getD (b := b18) (d := dia tx) hF2 (by simp) fun w0 hw0 => ?_
        have s := holds_spec hw0 (c := cc) (by omega) (by omega)
        rw [holds_eq sx, fx] at s
        refine s.mono ?_
        clear s
        rintro _ F3 ⟨rfl, la⟩
        have hF3 := hF2.le la
        have lF3 := lF2.trans la
        clear la
        refine ⟨_, rfl, ?_⟩
        have e : (oXor false y == (!(false == y))) = true := by cases y <;> rfl
        rw [e]
        exact key _ lF3 hF3
      · exfalso; cases y <;> simp [oOr] at h
    · exfalso; cases y <;> simp [oAnd] at h
theorem ops_d9 {b6 b7 b8 : Nat} (hc0 : 0 ≤ cc) (hc1 : cc < 18446744073709551616) (ka : Sx 6 ta) (kb : Sx 6 tb) (kd : Sx 6 td) (hle : F0.le F) (h0 : Los F [(b8, dia td), (b7, dia tb), (b6, dia ta)]) {R : Value → PH → Prop} (hR : ∀ F', F0.le F' → R (.bool true) F') :
    b4d9 b6 b7 b8 cc true R F := by
  have sa := ka.small (by omega)
  have sb := kb.small (by omega)
  have sd := kd.small (by omega)
  have kn : Sx 6 (ap2 (fun x _ => !x) ta (leaf false)) := ka.ap2 (Sx.leaf _ _)
  have kc : Sx 6 (ap2 oAnd ta tb) := ka.ap2 kb
  have ko : Sx 6 (ap2 oOr ta tb) := ka.ap2 kb
  have kx : Sx 6 (ap2 oXor ta tb) := ka.ap2 kb
  have kh : Sx 6 (ap oCho ta tb td) := ka.ap kb kd
  have sn := kn.small (by omega)
  have sc := kc.small (by omega)
  have so := ko.small (by omega)
  have sx := kx.small (by omega)
  have sh := kh.small (by omega)
  have en : bin (fun x _ => !x) (dia ta) none0 = (dia (ap2 (fun x _ => !x) ta (leaf false)), 0) := by rw [dia_none0, bin_ap sa (leaf_small _)]; exact lim_small sn
  have ec : bin oAnd (dia ta) (dia tb) = (dia (ap2 oAnd ta tb), 0) := by rw [bin_ap sa sb]; exact lim_small sc
  have eo : bin oOr (dia ta) (dia tb) = (dia (ap2 oOr ta tb), 0) := by rw [bin_ap sa sb]; exact lim_small so
  have ex : bin oXor (dia ta) (dia tb) = (dia (ap2 oXor ta tb), 0) := by rw [bin_ap sa sb]; exact lim_small sx
  have eh : cho (dia ta) (dia tb) (dia td) = (dia (ap oCho ta tb td), 0) := by rw [cho_ap sa sb sd]; exact lim_small sh
  have fn := (ap2_facts (o := fun x _ => !x) ka.1 (Sx.leaf 6 false).1).2 (cfg cc)
  have fc := (ap2_facts (o := oAnd) ka.1 kb.1).2 (cfg cc)
  have fo := (ap2_facts (o := oOr) ka.1 kb.1).2 (cfg cc)
  have fx := (ap2_facts (o := oXor) ka.1 kb.1).2 (cfg cc)
  have fh : (ap oCho ta tb td).ev (cfg cc) = oCho (ta.ev (cfg cc)) (tb.ev (cfg cc)) (td.ev (cfg cc)) := ap_ev (o := oCho) ka.1 kb.1 kd.1 (cfg cc)
  generalize ap2 (fun x _ => !x) ta (leaf false) = tn at *
  generalize ap2 oAnd ta tb = tc at *
  generalize ap2 oOr ta tb = to at *
  generalize ap2 oXor ta tb = tx at *
  generalize ap oCho ta tb td = th at *
  unfold b4d9
  obtain ⟨w0, qw0, hw0⟩ := h0 (b6, dia ta) (by simp)
  refine ⟨w0, hw0.size, row_whole qw0, ?_⟩
  obtain ⟨w1, qw1, hw1⟩ := h0 (b7, dia tb) (by simp)
  refine ⟨w1, hw1.size, row_whole qw1, ?_⟩
  obtain ⟨w2, qw2, hw2⟩ := h0 (b8, dia td) (by simp)
  refine ⟨w2, hw2.size, row_whole qw2, ?_⟩
  have s := holds_spec hw0 (c := cc) (by omega) (by omega)
  rw [holds_eq sa] at s
  refine s.mono ?_
  clear s
  rintro _ F1 ⟨rfl, la⟩
  have hF1 := h0.le la
  have lF1 := hle.trans la
  replace qw1 := la _ _ qw1
  replace hw1 := hw1.le la
  replace qw2 := la _ _ qw2
  replace hw2 := hw2.le la
  clear la
  refine ⟨_, rfl, row_whole qw2, row_whole qw1, ?_⟩
  have s := holds_spec hw1 (c := cc) (by omega) (by omega)
  rw [holds_eq sb] at s
  refine s.mono ?_
  clear s
  rintro _ F2 ⟨rfl, la⟩
  have hF2 := hF1.le la
  have lF2 := lF1.trans la
  replace qw2 := la _ _ qw2
  replace hw2 := hw2.le la
  clear la
  refine ⟨_, rfl, row_whole qw2, ?_⟩
  have s := holds_spec hw2 (c := cc) (by omega) (by omega)
  rw [holds_eq sd] at s
  refine s.mono ?_
  clear s
  rintro _ F3 ⟨rfl, la⟩
  have hF3 := hF2.le la
  have lF3 := lF2.trans la
  clear la
  refine ⟨_, rfl, ?_⟩
  refine getD (b := b6) (d := dia ta) hF3 (by simp) fun w0 hw0 => ?_
  have s := not_spec hw0
  rw [en] at s
  refine s.mono ?_
  clear s
  rintro _ F4 ⟨⟨w, rfl, hw⟩, la⟩
  refine ⟨w, _, rfl, ?_⟩
  have hF4 := hF3.le la
  have lF4 := lF3.trans la
  clear la
  refine locD hw rfl hF4 fun b12 F5 lb hF5 hc => ?_
  have lF5 := lF4.trans lb
  clear hc hw lb
  refine getD (b := b6) (d := dia ta) hF5 (by simp) fun w0 hw0 => ?_
  refine getD (b := b7) (d := dia tb) hF5 (by simp) fun w1 hw1 => ?_
  have s := and_spec hw0 hw1
  rw [ec] at s
  refine s.mono ?_
  clear s
  rintro _ F6 ⟨⟨w, rfl, hw⟩, la⟩
  refine ⟨w, _, rfl, ?_⟩
  have hF6 := hF5.le la
  have lF6 := lF5.trans la
  clear la
  refine locD hw rfl hF6 fun b14 F7 lb hF7 hc => ?_
  have lF7 := lF6.trans lb
  clear hc hw lb
  refine getD (b := b6) (d := dia ta) hF7 (by simp) fun w0 hw0 => ?_
  refine getD (b := b7) (d := dia tb) hF7 (by simp) fun w1 hw1 => ?_
  have s := or_spec hw0 hw1
  rw [eo] at s
  refine s.mono ?_
  clear s
  rintro _ F8 ⟨⟨w, rfl, hw⟩, la⟩
  refine ⟨w, _, rfl, ?_⟩
  have hF8 := hF7.le la
  have lF8 := lF7.trans la
  clear la
  refine locD hw rfl hF8 fun b16 F9 lb hF9 hc => ?_
  have lF9 := lF8.trans lb
  clear hc hw lb
  refine getD (b := b6) (d := dia ta) hF9 (by simp) fun w0 hw0 => ?_
  refine getD (b := b7) (d := dia tb) hF9 (by simp) fun w1 hw1 => ?_
  have s := xor_spec hw0 hw1
  rw [ex] at s
  refine s.mono ?_
  clear s
  rintro _ F10 ⟨⟨w, rfl, hw⟩, la⟩
  refine ⟨w, _, rfl, ?_⟩
  have hF10 := hF9.le la
  have lF10 := lF9.trans la
  clear la
  refine locD hw rfl hF10 fun b18 F11 lb hF11 hc => ?_
  have lF11 := lF10.trans lb
  clear hc hw lb
  refine getD (b := b6) (d := dia ta) hF11 (by simp) fun w0 hw0 => ?_
  refine getD (b := b7) (d := dia tb) hF11 (by simp) fun w1 hw1 => ?_
  refine getD (b := b8) (d := dia td) hF11 (by simp) fun w2 hw2 => ?_
  have s := choose_spec hw0 hw1 hw2
  rw [eh] at s
  refine s.mono ?_
  clear s
  rintro _ F12 ⟨⟨w, rfl, hw⟩, la⟩
  refine ⟨w, _, rfl, ?_⟩
  have hF12 := hF11.le la
  have lF12 := lF11.trans la
  clear la
  refine locD hw rfl hF12 fun b20 F13 lb hF13 hc => ?_
  have lF13 := lF12.trans lb
  clear hc hw lb
  refine ⟨fun _ => ⟨fun _ => ⟨fun _ => ⟨fun _ => ?_, fun h => absurd rfl h⟩, fun h => absurd rfl h⟩, fun h => absurd rfl h⟩, fun h => absurd rfl h⟩
  rw [show decide ((0 : Int) = 0) = true from rfl]
  have key : ∀ ch, ch = (if ta.ev (cfg cc) = true then tb.ev (cfg cc) else td.ev (cfg cc)) → b4j2 cc true (ta.ev (cfg cc)) (tb.ev (cfg cc)) b12 b14 b16 b18 b20 true ch R F13 := fun ch hch => ops_j2 hc0 hc1 sn sc so sx sh fn fc fo fx fh hch lF13 (fun p hp => hF13 p (List.mem_append_left _ hp)) hR
  unfold b4j1
  exact ⟨fun hx => key _ (by rw [if_pos hx]), fun hx => key _ (by rw [if_neg (by rw [hx]; simp)])⟩
end
set_option maxHeartbeats 4000000 in
theorem operations_spec {F : PH} {l : Array Value} {s0 s1 s2 : Array Value} {n0 n1 n2 cc : Int} (hl : SetsV F l s0 s1 s2 n0 n1 n2) (hc0 : 0 ≤ cc) (hc1 : cc < 18446744073709551616) : Spec prog 4 #[.agg l, .int .u64 cc] F fun r F' => r = .bool true ∧ F.le F' := by
  refine c4 ?_
  unfold b4
  intro bl hbl
  refine atI ?_
  have la := le_set_fresh (.cells l 43) hbl
  have q := set_eq F bl (.cells l 43)
  generalize F.set bl (.cells l 43) = G at *
  refine (sanity_spec G).mono ?_
  rintro _ F1 ⟨rfl, lb⟩
  replace q := lb _ _ q
  have l1 := la.trans lb
  refine ⟨_, rfl, ?_⟩
  have hs0 := hl.s0.le l1
  have hs1 := hl.s1.le l1
  have hs2 := hl.s2.le l1
  have r0 : F1.row (Addr.add (Addr.mk bl 0 none) (Int.toNat (0 : Int) * 2)) s0 := hl.row q 0 rfl (by omega)
  have r1 : F1.row (Addr.add (Addr.mk bl 0 none) (Int.toNat (1 : Int) * 2)) s1 := hl.row q 1 rfl (by omega)
  have r2 : F1.row (Addr.add (Addr.mk bl 0 none) (Int.toNat (2 : Int) * 2)) s2 := hl.row q 2 rfl (by omega)
  refine ⟨by omega, by omega, s0, hs0.size, r0, by omega, by omega, s1, hs1.size, r1, by omega, by omega, s2, hs2.size, r2, ?_⟩
  have fin : ∀ {F' : PH} {zs : List Nat} {b c d : Nat} {w1 w2 w3 : Array Value} {t1 t2 t3 : Tr}, RSt F1 F' zs [(w3, t3), (w2, t2), (w1, t1)] → (zs = [b, c, d] ∨ zs = [b, d, c] ∨ zs = [c, b, d] ∨ zs = [c, d, b] ∨ zs = [d, b, c] ∨ zs = [d, c, b]) →
      b4d6 w1 b w2 c w3 d cc true (fun r F' => r = .bool true ∧ F.le F') F' := fun h hz => by
    unfold b4d6 b4d7 b4d8
    exact R_fin3 h hz fun F' hl' k1 k2 k3 h0 => ops_d9 hc0 hc1 k1 k2 k3 hl' h0 fun F'' h => ⟨rfl, l1.trans h⟩
  have st := RSt.start F1
  repeat' first
    | with_reducible refine ⟨row_le (RSt.le (by assumption)) r2, ?_⟩
    | with_reducible refine ⟨row_le (RSt.le (by assumption)) r1, ?_⟩
    | with_reducible refine R_alloc (by assumption) fun b F' h => ?_
    | with_reducible refine R_made (by assumption) hs0 fun w t F' h => ?_
    | with_reducible refine R_made (by assumption) hs1 fun w t F' h => ?_
    | with_reducible refine R_made (by assumption) hs2 fun w t F' h => ?_
    | with_reducible exact fin (by assumption) (.inl rfl)
    | with_reducible exact fin (by assumption) (.inr (.inl rfl))
    | with_reducible exact fin (by assumption) (.inr (.inr (.inl rfl)))
    | with_reducible exact fin (by assumption) (.inr (.inr (.inr (.inl rfl))))
    | with_reducible exact fin (by assumption) (.inr (.inr (.inr (.inr (.inl rfl)))))
    | with_reducible exact fin (by assumption) (.inr (.inr (.inr (.inr (.inr rfl)))))
    | with_reducible refine ⟨?_, ?_, ?_, ?_⟩
    | with_reducible refine ⟨?_, ?_, ?_⟩
    | with_reducible refine ⟨?_, ?_⟩
    | unfold b4d1
    | unfold b4d2
    | unfold b4d3
    | unfold b4d4
    | unfold b4d5
    | unfold b4d10
    | unfold b4d11
    | unfold b4d12
    | unfold b4d13
    | unfold b4d14
    | unfold b4d15
    | unfold b4d16
    | unfold b4d17
    | unfold b4d18
    | unfold b4d19
    | unfold b4d20
    | unfold b4d21
    | unfold b4d22
    | unfold b4d23
    | unfold b4d24
    | unfold b4d25
    | unfold b4d26
    | unfold b4d27
    | unfold b4d28
    | unfold b4d29
    | unfold b4d30
    | unfold b4d31
    | unfold b4d32
    | unfold b4d33
    | unfold b4d34
end Go.Proofs.Ytafojmoeaneedaa

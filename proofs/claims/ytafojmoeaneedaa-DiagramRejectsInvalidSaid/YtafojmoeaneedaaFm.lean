/-
  DiagramRejectsInvalid: the walk.
-/
import Derived.Test.YtafojmoeaneedaaEt
import Derived.Test.YtafojmoeaneedaaFb
import Derived.Test.YtafojmoeaneedaaEv
import Derived.Test.YtafojmoeaneedaaFh
import Derived.Test.YtafojmoeaneedaaGL14
namespace Go.Proofs.Ytafojmoeaneedaa
open Go Go.Proofs.Try Tr
set_option maxRecDepth 10000

/-! values, beside variables that are still empty -/
structure VZ (F0 F : PH) (zs : List Nat) (G : PH) : Prop where
  le0 : F0.le G
  le : G.le F
  z : ∀ b ∈ zs, F b = some (.cells #[Value.slice none 0 0, Value.int .i64 0] 28) ∧ G b = none
theorem VZ.start {F0 F : PH} (h : F0.le F) : VZ F0 F [] F := ⟨h, PH.le_rfl, fun b hb => by cases hb⟩
theorem VZ.call {F0 F G : PH} {zs : List Nat} {f : FuncId} {args : Array Value} {P : Value → PH → Prop} (h : VZ F0 F zs G) (s : Spec prog f args G fun r G' => P r G' ∧ G.le G') :
    Spec prog f args F fun r F' => ∃ G', P r G' ∧ G.le G' ∧ VZ F0 F' zs G' :=
  (s.upon h.le).mono fun r F' ⟨G', ⟨hp, hl⟩, hl', hk⟩ => ⟨G', hp, hl, h.le0.trans hl, hl', fun b hb => hk b _ (h.z b hb).2 (h.z b hb).1⟩
theorem VZ.alloc {F0 F G : PH} {zs : List Nat} (h : VZ F0 F zs G) {K : Nat → PH → Prop} (k : ∀ b F', VZ F0 F' (b :: zs) G → K b F') : ∀ b, F b = none → atF (F.set b (.cells #[Value.slice none 0 0, Value.int .i64 0] 28)) (K b) := by
  intro b hb
  refine atI (k b _ ⟨h.le0, h.le.trans (le_set_fresh _ hb), fun x hx => ?_⟩)
  rcases List.mem_cons.1 hx with rfl | hx
  · exact ⟨set_eq _ _ _, le_none h.le hb⟩
  · exact ⟨by rw [set_ne _ _ (ne_of_fresh hb (h.z x hx).1)]; exact (h.z x hx).1, (h.z x hx).2⟩
theorem VZ.store {F0 F G : PH} {zs : List Nat} {c : Nat} {u : Array Value} {d : Dia} (h : VZ F0 F zs G) (hc : c ∈ zs) (hu : DV G u d) {K : PH → Prop} (k : ∀ F', G.le F' → Lo F' c d → K F') :
    u.size = 2 ∧ (∀ v ∈ u.toList, storable v) ∧ ∃ c1 e, F (Addr.mk c 0 none).block = some (.cells c1 e (0, 0)) ∧ (Addr.mk c 0 none).spot = none ∧ (Addr.mk c 0 none).off + 2 ≤ c1.size ∧
      atF (F.set (Addr.mk c 0 none).block (.cells (wr c1 (Addr.mk c 0 none).off u.toList) e)) K := by
  obtain ⟨h1, h2⟩ := h.z c hc
  refine stW h1 hu.size rfl hu.st ?_
  have lG : G.le (F.set c (.cells u 28)) := le_set_new h.le h2
  exact k _ lG ⟨u, set_eq _ _ _, hu.le lG⟩
theorem chk_bad {d : Dia} (hl : d.1.length ≤ 63) (h : chk d ≠ 0) : chk d = 20 := by
  unfold chk at h ⊢
  rw [if_neg (by omega)] at h ⊢
  by_cases hv : Valid d
  · rw [if_pos hv] at h; exact absurd rfl h
  · rw [if_neg hv]
theorem support_bad {F : PH} {v : Array Value} {d : Dia} (hd : DV F v d) (hk : chk d ≠ 0) : Spec prog 56 #[.agg v] F fun r F' => r = Sl.v Sl.nil ∧ F.le F' := by
  refine c56 ?_
  unfold b56
  intro b1 hb1
  refine atI ?_
  have l1 := le_set_fresh (.cells v 28) hb1
  refine ⟨v, hd.size, row_whole (set_eq _ _ _), ?_⟩
  refine (check_spec (hd.le l1)).mono ?_
  rintro _ F1 ⟨rfl, l2⟩
  exact ⟨_, rfl, fun _ => ⟨rfl, l1.trans l2⟩, fun h => absurd hk h⟩

section
variable {F0 F : PH} {ta : Tr} {b8 b9 : Nat} {d : Dia}
theorem rej_bad (ka : Sx 6 ta) (hk : chk d = 20) (hle : F0.le F) (h0 : Los F [(b9, d), (b8, dia ta)]) {R : Value → PH → Prop} (hR : ∀ F', F0.le F' → R (.bool true) F') :
    ∃ v_100 : Array Value, v_100.size = 2 ∧ F.row (Addr.mk b9 0 none) v_100 ∧
        Spec prog 25 #[(Value.agg v_100)] F fun v F => ∃ v_101 : Array Value, ∃ v_101_1 : Int, v = (Value.tuple #[(Value.agg v_101), (Value.int .i64 v_101_1)]) ∧
        ∀ b14, F b14 = none → atF (F.set b14 (.cells (#[Value.slice none 0 0, Value.int .i64 0]) 28)) fun F =>
        v_101.size = 2 ∧ (∀ v ∈ v_101.toList, storable v) ∧ ∃ c e, F (Addr.mk b14 0 none).block = some (.cells c e (0, 0)) ∧ (Addr.mk b14 0 none).spot = none ∧ (Addr.mk b14 0 none).off + 2 ≤ c.size ∧
        atF (F.set (Addr.mk b14 0 none).block (.cells (wr c (Addr.mk b14 0 none).off v_101.toList) e)) fun F =>
        ∃ v_105 : Array Value, v_105.size = 2 ∧ F.row (Addr.mk b8 0 none) v_105 ∧
        ∃ v_106 : Array Value, v_106.size = 2 ∧ F.row (Addr.mk b9 0 none) v_106 ∧
        Spec prog 19 #[(Value.agg v_105), (Value.agg v_106)] F fun v F => ∃ v_107 : Array Value, ∃ v_107_1 : Int, v = (Value.tuple #[(Value.agg v_107), (Value.int .i64 v_107_1)]) ∧
        ∀ b16, F b16 = none → atF (F.set b16 (.cells (#[Value.slice none 0 0, Value.int .i64 0]) 28)) fun F =>
        v_107.size = 2 ∧ (∀ v ∈ v_107.toList, storable v) ∧ ∃ c e, F (Addr.mk b16 0 none).block = some (.cells c e (0, 0)) ∧ (Addr.mk b16 0 none).spot = none ∧ (Addr.mk b16 0 none).off + 2 ≤ c.size ∧
        atF (F.set (Addr.mk b16 0 none).block (.cells (wr c (Addr.mk b16 0 none).off v_107.toList) e)) fun F =>
        ∃ v_111 : Array Value, v_111.size = 2 ∧ F.row (Addr.mk b8 0 none) v_111 ∧
        ∃ v_112 : Array Value, v_112.size = 2 ∧ F.row (Addr.mk b8 0 none) v_112 ∧
        ∃ v_113 : Array Value, v_113.size = 2 ∧ F.row (Addr.mk b9 0 none) v_113 ∧
        Spec prog 27 #[(Value.agg v_111), (Value.agg v_112), (Value.agg v_113)] F fun v F => ∃ v_114 : Array Value, ∃ v_114_1 : Int, v = (Value.tuple #[(Value.agg v_114), (Value.int .i64 v_114_1)]) ∧
        ∀ b18, F b18 = none → atF (F.set b18 (.cells (#[Value.slice none 0 0, Value.int .i64 0]) 28)) fun F =>
        v_114.size = 2 ∧ (∀ v ∈ v_114.toList, storable v) ∧ ∃ c e, F (Addr.mk b18 0 none).block = some (.cells c e (0, 0)) ∧ (Addr.mk b18 0 none).spot = none ∧ (Addr.mk b18 0 none).off + 2 ≤ c.size ∧
        atF (F.set (Addr.mk b18 0 none).block (.cells (wr c (Addr.mk b18 0 none).off v_114.toList) e)) fun F =>
        ∃ v_118 : Array Value, v_118.size = 2 ∧ F.row (Addr.mk b9 0 none) v_118 ∧
        Spec prog 28 #[(Value.agg v_118), (Value.int .i64 (64 : Int)), (Value.bool true)] F fun v F => ∃ v_119 : Array Value, ∃ v_119_1 : Int, v = (Value.tuple #[(Value.agg v_119), (Value.int .i64 v_119_1)]) ∧
        ∀ b20, F b20 = none → atF (F.set b20 (.cells (#[Value.slice none 0 0, Value.int .i64 0]) 28)) fun F =>
        v_119.size = 2 ∧ (∀ v ∈ v_119.toList, storable v) ∧ ∃ c e, F (Addr.mk b20 0 none).block = some (.cells c e (0, 0)) ∧ (Addr.mk b20 0 none).spot = none ∧ (Addr.mk b20 0 none).off + 2 ≤ c.size ∧
        atF (F.set (Addr.mk b20 0 none).block (.cells (wr c (Addr.mk b20 0 none).off v_119.toList) e)) fun F =>
        ∃ v_123 : Array Value, v_123.size = 2 ∧ F.row (Addr.mk b9 0 none) v_123 ∧
        Spec prog 32 #[(Value.agg v_123), (Value.int .i64 (-1 : Int))] F fun v F => ∃ v_124 : Sl, ∃ v_124_1 : Int, v = (Value.tuple #[(Sl.v v_124), (Value.int .i64 v_124_1)]) ∧
        ∃ v_128 : Array Value, v_128.size = 2 ∧ F.row (Addr.mk b9 0 none) v_128 ∧
        Spec prog 31 #[(Value.agg v_128)] F fun v F => ∃ v_129 : Int, ∃ v_129_1 : Bool, v = (Value.tuple #[(Value.int .u64 v_129), (Value.bool v_129_1)]) ∧
        (((!v_129_1) = true →
          ∃ v_135 : Array Value, v_135.size = 2 ∧ F.row (Addr.mk b9 0 none) v_135 ∧
          Spec prog 56 #[(Value.agg v_135)] F fun v F => ∃ v_136 : Sl, v = (Sl.v v_136) ∧
          (((v_136.len : Int) = (0 : Int) →
            ∃ v_141 : Array Value, v_141.size = 2 ∧ F.row (Addr.mk b9 0 none) v_141 ∧
            Spec prog 21 #[(Value.agg v_141), (Value.int .u64 (0 : Int))] F fun v F => ∃ v_142 : Bool, v = (Value.bool v_142) ∧
            (((!v_142) = true →
              ∃ v_146 : Array Value, v_146.size = 2 ∧ F.row (Addr.mk b9 0 none) v_146 ∧
              ∃ v_147 : Array Value, v_147.size = 2 ∧ F.row (Addr.mk b9 0 none) v_147 ∧
              Spec prog 44 #[(Value.agg v_146), (Value.agg v_147)] F fun v F => ∃ v_148 : Bool, v = (Value.bool v_148) ∧
              (((!v_148) = true →
                ∃ v_152 : Array Value, v_152.size = 2 ∧ F.row (Addr.mk b9 0 none) v_152 ∧
                Spec prog 17 #[(Value.bool false)] F fun v F => ∃ v_153 : Array Value, v = (Value.agg v_153) ∧
                F.row (Addr.mk b9 0 none) v_152 ∧ Spec prog 46 #[(Value.agg v_152), (Value.agg v_153)] F fun v F => ∃ v_154 : Bool, v = (Value.bool v_154) ∧
                b14j4 true 20 v_101_1 v_107_1 v_114_1 v_119_1 v_124_1 (!v_154) R F) ∧
              ((!v_148) = false →
                b14j4 true 20 v_101_1 v_107_1 v_114_1 v_119_1 v_124_1 false R F))) ∧
            ((!v_142) = false →
              b14j4 true 20 v_101_1 v_107_1 v_114_1 v_119_1 v_124_1 false R F))) ∧
          (¬ ((v_136.len : Int) = (0 : Int)) →
            b14j4 true 20 v_101_1 v_107_1 v_114_1 v_119_1 v_124_1 false R F))) ∧
        ((!v_129_1) = false →
          b14j4 true 20 v_101_1 v_107_1 v_114_1 v_119_1 v_124_1 false R F)) := by
  have sa := ka.small (by omega)
  have ca := chk_small sa
  have e1 : bin (fun x _ => !x) d none0 = (none0, 20) := by unfold bin; simp [chkL, hk]
  have e2 : bin oAnd (dia ta) d = (none0, 20) := by unfold bin; simp [chkL, hk, ca]
  have e3 : cho (dia ta) (dia ta) d = (none0, 20) := by unfold cho; simp [chkL, hk, ca]
  have e4 : resD d 64 true = (none0, 20) := by unfold resD; simp [hk]
  have e5 : countD d (-1) = (0, 20) := by unfold countD; simp [hk]
  have e6 : leastD d = (0, false) := by unfold leastD; simp [hk]
  have e7 : holdsD d 0 = false := by unfold holdsD; simp [hk]
  have e8 : missD d d false = false := by unfold missD; simp [chkL, hk]
  have e9 : missD d (dia (leaf false)) true = false := by unfold missD; simp [chkL, hk]
  refine getD (b := b9) (d := d) h0 (by simp) fun w0 hw0 => ?_
  have s := not_spec hw0
  rw [e1] at s
  refine s.mono ?_
  clear s
  rintro _ F1 ⟨⟨w, rfl, hw⟩, la⟩
  refine ⟨w, _, rfl, ?_⟩
  have hF1 := h0.le la
  have lF1 := hle.trans la
  clear la
  refine locD hw rfl hF1 fun b14 F2 lb hF2 hc => ?_
  have lF2 := lF1.trans lb
  clear hc hw lb
  refine getD (b := b8) (d := dia ta) hF2 (by simp) fun w0 hw0 => ?_
  refine getD (b := b9) (d := d) hF2 (by simp) fun w1 hw1 => ?_
  have s := and_spec hw0 hw1
  rw [e2] at s
  refine s.mono ?_
  clear s
  rintro _ F3 ⟨⟨w, rfl, hw⟩, la⟩
  refine ⟨w, _, rfl, ?_⟩
  have hF3 := hF2.le la
  have lF3 := lF2.trans la
  clear la
  refine locD hw rfl hF3 fun b16 F4 lb hF4 hc => ?_
  have lF4 := lF3.trans lb
  clear hc hw lb
  refine getD (b := b8) (d := dia ta) hF4 (by simp) fun w0 hw0 => ?_
  refine getD (b := b8) (d := dia ta) hF4 (by simp) fun w1 hw1 => ?_
  refine getD (b := b9) (d := d) hF4 (by simp) fun w2 hw2 => ?_
  have s := choose_spec hw0 hw1 hw2
  rw [e3] at s
  refine s.mono ?_
  clear s
  rintro _ F5 ⟨⟨w, rfl, hw⟩, la⟩
  refine ⟨w, _, rfl, ?_⟩
  have hF5 := hF4.le la
  have lF5 := lF4.trans la
  clear la
  refine locD hw rfl hF5 fun b18 F6 lb hF6 hc => ?_
  have lF6 := lF5.trans lb
  clear hc hw lb
  refine getD (b := b9) (d := d) hF6 (by simp) fun w0 hw0 => ?_
  have s := restrict_spec hw0 64 true
  rw [e4] at s
  refine s.mono ?_
  clear s
  rintro _ F7 ⟨⟨w, rfl, hw⟩, la⟩
  refine ⟨w, _, rfl, ?_⟩
  have hF7 := hF6.le la
  have lF7 := lF6.trans la
  clear la
  refine locD hw rfl hF7 fun b20 F8 lb hF8 hc => ?_
  have lF8 := lF7.trans lb
  clear hc hw lb
  refine getD (b := b9) (d := d) hF8 (by simp) fun w0 hw0 => ?_
  have s := count_spec hw0 (-1)
  rw [e5] at s
  refine s.mono ?_
  clear s
  rintro _ F9 ⟨sn, rfl, _, la⟩
  refine ⟨_, _, rfl, ?_⟩
  have hF9 := hF8.le la
  have lF9 := lF8.trans la
  clear la
  refine getD (b := b9) (d := d) hF9 (by simp) fun w0 hw0 => ?_
  have s := least_spec hw0
  rw [e6] at s
  refine s.mono ?_
  clear s
  rintro _ F10 ⟨rfl, la⟩
  refine ⟨_, _, rfl, fun _ => ?_, fun h => by cases h⟩
  have hF10 := hF9.le la
  have lF10 := lF9.trans la
  clear la
  refine getD (b := b9) (d := d) hF10 (by simp) fun w0 hw0 => ?_
  have s := support_bad hw0 (by omega)
  refine s.mono ?_
  clear s
  rintro _ F11 ⟨rfl, la⟩
  refine ⟨_, rfl, fun _ => ?_, fun h => absurd rfl h⟩
  have hF11 := hF10.le la
  have lF11 := lF10.trans la
  clear la
  refine getD (b := b9) (d := d) hF11 (by simp) fun w0 hw0 => ?_
  have s := holds_spec hw0 (c := 0) (by omega) (by omega)
  rw [e7] at s
  refine s.mono ?_
  clear s
  rintro _ F12 ⟨rfl, la⟩
  refine ⟨_, rfl, fun _ => ?_, fun h => by cases h⟩
  have hF12 := hF11.le la
  have lF12 := lF11.trans la
  clear la
  refine getD (b := b9) (d := d) hF12 (by simp) fun w0 hw0 => ?_
  refine getD (b := b9) (d := d) hF12 (by simp) fun w1 hw1 => ?_
  have s := within_spec hw0 hw1
  rw [e8] at s
  refine s.mono ?_
  clear s
  rintro _ F13 ⟨rfl, la⟩
  refine ⟨_, rfl, fun _ => ?_, fun h => by cases h⟩
  have hF13 := hF12.le la
  have lF13 := lF12.trans la
  clear la
  obtain ⟨w8, q8, hw8⟩ := hF13 (b9, d) (by simp)
  refine ⟨w8, hw8.size, row_whole q8, ?_⟩
  refine (constant_spec (F := F13) false).mono ?_
  rintro _ F14 ⟨wf, rfl, hwf, la⟩
  have hF14 := hF13.le la
  have lF14 := lF13.trans la
  replace q8 := la _ _ q8
  replace hw8 := hw8.le la
  clear la
  refine ⟨_, rfl, row_whole q8, ?_⟩
  have s := disjoint_spec hw8 hwf
  rw [e9] at s
  refine s.mono ?_
  clear s
  rintro _ F15 ⟨rfl, la⟩
  have hF15 := hF14.le la
  have lF15 := lF14.trans la
  refine ⟨_, rfl, ?_⟩
  unfold b14j4
  exact ⟨fun _ => ⟨fun _ => ⟨fun _ => ⟨fun _ => ⟨fun _ => ⟨fun _ => ⟨fun _ => hR _ lF15, fun h => by cases h⟩, fun h => absurd rfl h⟩, fun h => absurd rfl h⟩, fun h => absurd rfl h⟩, fun h => absurd rfl h⟩, fun h => absurd rfl h⟩, fun h => absurd rfl h⟩
theorem rej_j3 {t : Tr} (st : Small t) (hd : d = dia t) {c : Nat} (hle : F0.le F) (h9 : Lo F b9 d) (hc : Lo F c d) {R : Value → PH → Prop} (hR : ∀ F', F0.le F' → R (.bool true) F') : b14j3 true (Addr.mk b9 0 none) (some (Addr.mk c 0 none)) 0 R F := by
  unfold b14j3
  refine ⟨fun _ => ⟨_, rfl, ?_⟩, fun h => absurd rfl h⟩
  obtain ⟨u, q, hu⟩ := hc
  obtain ⟨w, q', hw⟩ := h9
  refine ⟨u, hu.size, row_whole q, w, hw.size, row_whole q', ?_⟩
  refine (same_spec hu hw (by rw [hd]; exact dia_fit st)).mono ?_
  rintro _ F1 ⟨rfl, l1⟩
  exact ⟨_, rfl, fun _ => hR _ (hle.trans l1), fun h => by simp at h⟩
theorem rej_j2 (ka : Sx 6 ta) (hl : d.1.length ≤ 63) (hle : F0.le F) (h0 : Los F [(b9, d), (b8, dia ta)]) {R : Value → PH → Prop} (hR : ∀ F', F0.le F' → R (.bool true) F') : b14j2 true b8 (some (Addr.mk b9 0 none)) R F := by
  unfold b14j2
  refine ⟨_, rfl, ?_⟩
  refine getD (b := b9) (d := d) h0 (by simp) fun w0 hw0 => ?_
  refine (check_spec hw0).mono ?_
  rintro _ F1 ⟨rfl, l1⟩
  have h1 := h0.le l1
  have hle1 := hle.trans l1
  refine ⟨_, rfl, fun hk => ?_, fun hk => ?_⟩
  · obtain ⟨kt, ed, _⟩ := chk0 hk
    have st : Small (tre d) := ⟨kt, subs_tre hk⟩
    obtain ⟨w, q, hw⟩ := h1 (b9, d) (by simp)
    refine ⟨w, hw.size, row_whole q, ?_⟩
    have eb : bin oAnd d (dia (leaf true)) = (d, 0) := by
      have := bin_eq (o := oAnd) st (leaf_small true) st fun c => by show (tre d).ev c = ((tre d).ev c && true); rw [Bool.and_true]
      rw [← ed] at this
      exact this
    have base := VZ.start (PH.le_rfl (F := F1))
    have cst : ∀ {F : PH} {zs : List Nat} {G : PH}, VZ F1 F zs G → Spec prog 17 #[.bool true] F fun r F' => ∃ u G', r = .agg u ∧ DV G' u (dia (leaf true)) ∧ VZ F1 F' zs G' := fun {F zs G} h =>
      (h.call ((constant_spec (F := G) true).mono fun r G' ⟨u, a, b, c⟩ => ⟨(⟨u, a, b⟩ : ∃ u, r = .agg u ∧ DV G' u (dia (leaf true))), c⟩)).mono fun r F' ⟨G', ⟨u, a, b⟩, _, c⟩ => ⟨u, G', a, b, c⟩
    have conj : ∀ {F : PH} {zs : List Nat} {G : PH} {u : Array Value}, VZ F1 F zs G → DV G u (dia (leaf true)) → Spec prog 19 #[.agg w, .agg u] F fun r F' => ∃ v G', r = .tuple #[.agg v, vi 0] ∧ DV G' v d ∧ VZ F1 F' zs G' := fun {F zs G u} h hu => by
      have s := and_spec (hw.le h.le0) hu
      rw [eb] at s
      exact (h.call (P := fun r F' => DRV F' r (d, 0)) s).mono fun r F' ⟨G', ⟨v, a, b⟩, _, c⟩ => ⟨v, G', a, b, c⟩
    have row : ∀ {F : PH} {zs : List Nat} {G : PH}, VZ F1 F zs G → F.row (Addr.mk b9 0 none) w := fun h => row_whole (h.le _ _ (h.le0 _ _ q))
    have fin : ∀ {F : PH} {c : Nat} {G : PH} {v : Array Value}, VZ F1 F [c] G → DV G v d → v.size = 2 ∧ (∀ x ∈ v.toList, storable x) ∧ ∃ c1 e, F (Addr.mk c 0 none).block = some (.cells c1 e (0, 0)) ∧ (Addr.mk c 0 none).spot = none ∧ (Addr.mk c 0 none).off + 2 ≤ c1.size ∧
        atF (F.set (Addr.mk c 0 none).block (.cells (wr c1 (Addr.mk c 0 none).off v.toList) e)) (b14j3 true (Addr.mk b9 0 none) (some (Addr.mk c 0 none)) 0 R) := fun {F c G v} h hv =>
      h.store (by simp) hv fun F' lg hc => rej_j3 st ed (hle1.trans (h.le0.trans lg)) ((h1 (b9, d) (by simp)).le (h.le0.trans lg)) hc hR
    refine ⟨?_, ?_⟩
    · refine (cst base).mono ?_
      rintro _ F2 ⟨u, G, rfl, hu, v1⟩
      refine ⟨_, rfl, row v1, ?_, ?_⟩
      · refine (conj v1 hu).mono ?_
        rintro _ F3 ⟨v, G', rfl, hv, v2⟩
        exact ⟨_, _, rfl, v2.alloc fun b F' v3 => fin v3 hv⟩
      · refine v1.alloc fun b F' v2 => (conj v2 hu).mono ?_
        rintro _ F3 ⟨v, G', rfl, hv, v3⟩
        exact ⟨_, _, rfl, fin v3 hv⟩
    · refine base.alloc fun b F' v1 => (cst v1).mono ?_
      rintro _ F2 ⟨u, G, rfl, hu, v2⟩
      refine ⟨_, rfl, row v2, (conj v2 hu).mono ?_⟩
      rintro _ F3 ⟨v, G', rfl, hv, v3⟩
      exact ⟨_, _, rfl, fin v3 hv⟩
  · have hk' := chk_bad hl hk
    rw [hk']
    exact rej_bad ka hk' hle1 h1 hR
end
end Go.Proofs.Ytafojmoeaneedaa

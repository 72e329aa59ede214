/-
  DiagramPartsMatchReference: the walk.
-/
import Derived.Test.YtafojmoeaneedaaEt
import Derived.Test.YtafojmoeaneedaaFt
import Derived.Test.YtafojmoeaneedaaFy
import Derived.Test.YtafojmoeaneedaaGL12
namespace Go.Proofs.Ytafojmoeaneedaa
open Go Go.Proofs.Try Tr
set_option maxRecDepth 10000

theorem VX.callG {F0 F G : PH} {xs : List (Nat × Array Value × Dia)} {f : FuncId} {args : Array Value} {P : Value → PH → Prop} (h : VX F0 F G xs) (s : Spec prog f args G fun r G' => P r G' ∧ G.le G') :
    Spec prog f args F fun r F' => ∃ G', P r G' ∧ G.le G' ∧ VX F0 F' G' xs :=
  (s.upon h.lG).mono fun r F' ⟨G', ⟨hp, hl⟩, hl', hk⟩ => ⟨G', hp, hl, h.l0.trans hl, hl', fun p hp => by
    obtain ⟨a, b, c⟩ := h.z p hp
    obtain ⟨a', b'⟩ := hk _ _ b a
    exact ⟨a', b', c.le hl⟩, h.nd⟩
theorem res_fit (a : Dia) (v : Int) (b : Bool) : (resD a v b).1.1.length ≤ 4096 := by
  unfold resD lim none0
  repeat' split
  all_goals simp
  omega
theorem ex_fit (a : Dia) (v : Int) : (exD a v).1.1.length ≤ 4096 := by
  unfold exD lim none0
  repeat' split
  all_goals simp
  omega
theorem var_fit (v : Int) : (varD v).1.1.length ≤ 4096 := by
  unfold varD
  split
  · simp [none0]
  · rw [dia_tv]
    simp
theorem countT_le' {n : Nat} (hn : n ≤ 64) {t : Tr} (hok : t.ok) (hb : below n t) : countT n t ≤ 2 ^ n := by
  unfold countT
  refine Nat.le_trans (Nat.mul_le_mul_right _ (cv_le hn t hok hb)) ?_
  rw [← Nat.pow_add, Nat.sub_add_cancel (Nat.min_le_left _ _)]
  exact Nat.le_refl _
theorem countD_le (a : Dia) (n : Int) : (countD a n).1 ≤ 18446744073709551616 := by
  unfold countD
  split
  · simp
  · rename_i h
    split
    · simp
    · rename_i h2
      split
      · rename_i hb
        obtain ⟨ka, ea, la⟩ := chk0 (by omega : chk a = 0)
        have e := countT_le' (n := n.toNat) (by omega) ka hb
        have e2 : 2 ^ n.toNat ≤ 2 ^ 64 := Nat.pow_le_pow_right (by omega) (by omega)
        have e3 : (2 : Nat) ^ 64 = 18446744073709551616 := by decide
        show countT n.toNat (tre a) ≤ _
        omega
      · simp
theorem nodup_sub : ∀ (l m : List Int), l.Nodup → (∀ x ∈ l, x ∈ m) → l.length ≤ m.length
  | [], _, _, _ => by simp
  | x :: l, m, hn, hm => by
    obtain ⟨h1, h2⟩ := List.nodup_cons.1 hn
    have hx := hm x (by simp)
    have := nodup_sub l (m.erase x) h2 fun y hy => (List.mem_erase_of_ne (by rintro rfl; exact h1 hy)).2 (hm y (by simp [hy]))
    rw [List.length_erase_of_mem hx] at this
    have := List.length_pos_of_mem hx
    simp
    omega
theorem supD_small {a : Dia} (fa : Few a) : (supD a).length ≤ 1000000 := by
  unfold supD
  split
  · simp
  · obtain ⟨h1, h2⟩ := supL_facts (a.1.map (·.v))
    have := nodup_sub _ (a.1.map (·.v)) (h1.imp (fun h => by omega)) fun x hx => (h2 x).1 hx
    rw [List.length_map] at this
    have : a.1.length ≤ 40 := fa
    omega

theorem count3 {F : PH} {f : FuncId} {args : Array Value} {c : Int} {n : Nat} (s : Spec prog f args F fun r F' => ∃ s, r = .tuple #[Sl.v s, vi c] ∧ NV F' s n ∧ F.le F') :
    Spec prog f args F fun r F' => (∃ s, r = .tuple #[Sl.v s, vi c] ∧ NV F' s n) ∧ F.le F' :=
  s.mono fun _ _ ⟨s, e, n, l⟩ => ⟨⟨s, e, n⟩, l⟩
theorem supp3 {F : PH} {f : FuncId} {args : Array Value} {z : List Value} (s : Spec prog f args F fun r F' => ∃ s, r = Sl.v s ∧ RdS F' s 1 z ∧ F.le F') :
    Spec prog f args F fun r F' => (∃ s, r = Sl.v s ∧ RdS F' s 1 z) ∧ F.le F' :=
  s.mono fun _ _ ⟨s, e, n, l⟩ => ⟨⟨s, e, n⟩, l⟩

section
variable {F0 : PH} {va : Array Value} {a : Dia} {b3 : Nat} {vv cc : Int}
set_option maxHeartbeats 4000000 in
theorem parts_go (fa : Few a) (ha : DV F0 va a) (q3 : F0 b3 = some (.cells va 28)) (c0 : 0 ≤ cc) (c1 : cc < 18446744073709551616)
    {R : Value → PH → Prop} (hR : ∀ F', F0.le F' → R (.bool true) F') : (fun F =>
 ∃ v_34 : Array Value, v_34.size = 2 ∧ F.row (Addr.mk b3 0 none) v_34 ∧
  Spec prog 28 #[(.agg v_34), (.int .i64 vv), (.bool (decide ((Int.tmod cc (2 : Int)) = (1 : Int))))] F fun v F => ∃ v_39 : Array Value, ∃ v_39_1 : Int, v = (.tuple #[(.agg v_39), (.int .i64 v_39_1)]) ∧
  ∀ b8, F b8 = none → atF (F.set b8 (.cells (#[.slice none 0 0, .int .i64 0]) 28)) fun F =>
  v_39.size = 2 ∧ (∀ v ∈ v_39.toList, storable v) ∧ ∃ c e, F (Addr.mk b8 0 none).block = some (.cells c e (0, 0)) ∧ (Addr.mk b8 0 none).spot = none ∧ (Addr.mk b8 0 none).off + 2 ≤ c.size ∧
  atF (F.set (Addr.mk b8 0 none).block (.cells (wr c (Addr.mk b8 0 none).off v_39.toList) e)) fun F =>
  ∃ v_43 : Array Value, v_43.size = 2 ∧ F.row (Addr.mk b3 0 none) v_43 ∧
  Spec prog 48 #[(.agg v_43), (.int .i64 vv), (.bool (decide ((Int.tmod cc (2 : Int)) = (1 : Int))))] F fun v F => ∃ v_48 : Array Value, ∃ v_48_1 : Int, v = (.tuple #[(.agg v_48), (.int .i64 v_48_1)]) ∧
  ∀ b10, F b10 = none → atF (F.set b10 (.cells (#[.slice none 0 0, .int .i64 0]) 28)) fun F =>
  v_48.size = 2 ∧ (∀ v ∈ v_48.toList, storable v) ∧ ∃ c e, F (Addr.mk b10 0 none).block = some (.cells c e (0, 0)) ∧ (Addr.mk b10 0 none).spot = none ∧ (Addr.mk b10 0 none).off + 2 ≤ c.size ∧
  atF (F.set (Addr.mk b10 0 none).block (.cells (wr c (Addr.mk b10 0 none).off v_48.toList) e)) fun F =>
  ∃ v_52 : Array Value, v_52.size = 2 ∧ F.row (Addr.mk b3 0 none) v_52 ∧
  Spec prog 29 #[(.agg v_52), (.int .i64 vv)] F fun v F => ∃ v_54 : Array Value, ∃ v_54_1 : Int, v = (.tuple #[(.agg v_54), (.int .i64 v_54_1)]) ∧
  ∀ b12, F b12 = none → atF (F.set b12 (.cells (#[.slice none 0 0, .int .i64 0]) 28)) fun F =>
  v_54.size = 2 ∧ (∀ v ∈ v_54.toList, storable v) ∧ ∃ c e, F (Addr.mk b12 0 none).block = some (.cells c e (0, 0)) ∧ (Addr.mk b12 0 none).spot = none ∧ (Addr.mk b12 0 none).off + 2 ≤ c.size ∧
  atF (F.set (Addr.mk b12 0 none).block (.cells (wr c (Addr.mk b12 0 none).off v_54.toList) e)) fun F =>
  ∃ v_58 : Array Value, v_58.size = 2 ∧ F.row (Addr.mk b3 0 none) v_58 ∧
  Spec prog 49 #[(.agg v_58), (.int .i64 vv)] F fun v F => ∃ v_60 : Array Value, ∃ v_60_1 : Int, v = (.tuple #[(.agg v_60), (.int .i64 v_60_1)]) ∧
  ∀ b14, F b14 = none → atF (F.set b14 (.cells (#[.slice none 0 0, .int .i64 0]) 28)) fun F =>
  v_60.size = 2 ∧ (∀ v ∈ v_60.toList, storable v) ∧ ∃ c e, F (Addr.mk b14 0 none).block = some (.cells c e (0, 0)) ∧ (Addr.mk b14 0 none).spot = none ∧ (Addr.mk b14 0 none).off + 2 ≤ c.size ∧
  atF (F.set (Addr.mk b14 0 none).block (.cells (wr c (Addr.mk b14 0 none).off v_60.toList) e)) fun F =>
  ∃ v_63 : Array Value, v_63.size = 2 ∧ F.row (Addr.mk b8 0 none) v_63 ∧
  ∃ v_64 : Array Value, v_64.size = 2 ∧ F.row (Addr.mk b10 0 none) v_64 ∧
  Spec prog 39 #[(.agg v_63), (.agg v_64)] F fun v F => ∃ v_65 : Bool, v = (.bool v_65) ∧
  (((!v_65) = true →
   R (.bool false) F) ∧
  ((!v_65) = false →
   ((v_39_1 ≠ v_48_1 →
    R (.bool false) F) ∧
   (¬ (v_39_1 ≠ v_48_1) →
    ∃ v_73 : Array Value, v_73.size = 2 ∧ F.row (Addr.mk b12 0 none) v_73 ∧
    ∃ v_74 : Array Value, v_74.size = 2 ∧ F.row (Addr.mk b14 0 none) v_74 ∧
    Spec prog 39 #[(.agg v_73), (.agg v_74)] F fun v F => ∃ v_75 : Bool, v = (.bool v_75) ∧
    (((!v_75) = true →
     R (.bool false) F) ∧
    ((!v_75) = false →
     ((v_54_1 ≠ v_60_1 →
      R (.bool false) F) ∧
     (¬ (v_54_1 ≠ v_60_1) →
      ∃ v_84 : Array Value, v_84.size = 2 ∧ F.row (Addr.mk b3 0 none) v_84 ∧
      Spec prog 32 #[(.agg v_84), (.int .i64 vv)] F fun v F => ∃ v_86 : Sl, ∃ v_86_1 : Int, v = (.tuple #[(Sl.v v_86), (.int .i64 v_86_1)]) ∧
      ∃ v_90 : Array Value, v_90.size = 2 ∧ F.row (Addr.mk b3 0 none) v_90 ∧
      Spec prog 50 #[(.agg v_90), (.int .i64 vv)] F fun v F => ∃ v_92 : Sl, ∃ v_92_1 : Int, v = (.tuple #[(Sl.v v_92), (.int .i64 v_92_1)]) ∧
      ∃ v_96 : Array Value, v_96.size = 2 ∧ F.row (Addr.mk b3 0 none) v_96 ∧
      Spec prog 31 #[(.agg v_96)] F fun v F => ∃ v_97 : Int, ∃ v_97_1 : Bool, v = (.tuple #[(.int .u64 v_97), (.bool v_97_1)]) ∧
      ∃ v_101 : Array Value, v_101.size = 2 ∧ F.row (Addr.mk b3 0 none) v_101 ∧
      Spec prog 51 #[(.agg v_101)] F fun v F => ∃ v_102 : Int, ∃ v_102_1 : Bool, v = (.tuple #[(.int .u64 v_102), (.bool v_102_1)]) ∧
      Spec prog 30 #[(.int .i64 vv)] F fun v F => ∃ v_107 : Array Value, ∃ v_107_1 : Int, v = (.tuple #[(.agg v_107), (.int .i64 v_107_1)]) ∧
      ∀ b24, F b24 = none → atF (F.set b24 (.cells (#[.slice none 0 0, .int .i64 0]) 28)) fun F =>
      v_107.size = 2 ∧ (∀ v ∈ v_107.toList, storable v) ∧ ∃ c e, F (Addr.mk b24 0 none).block = some (.cells c e (0, 0)) ∧ (Addr.mk b24 0 none).spot = none ∧ (Addr.mk b24 0 none).off + 2 ≤ c.size ∧
      atF (F.set (Addr.mk b24 0 none).block (.cells (wr c (Addr.mk b24 0 none).off v_107.toList) e)) fun F =>
      Spec prog 52 #[(.int .i64 vv)] F fun v F => ∃ v_112 : Array Value, ∃ v_112_1 : Int, v = (.tuple #[(.agg v_112), (.int .i64 v_112_1)]) ∧
      ∀ b26, F b26 = none → atF (F.set b26 (.cells (#[.slice none 0 0, .int .i64 0]) 28)) fun F =>
      v_112.size = 2 ∧ (∀ v ∈ v_112.toList, storable v) ∧ ∃ c e, F (Addr.mk b26 0 none).block = some (.cells c e (0, 0)) ∧ (Addr.mk b26 0 none).spot = none ∧ (Addr.mk b26 0 none).off + 2 ≤ c.size ∧
      atF (F.set (Addr.mk b26 0 none).block (.cells (wr c (Addr.mk b26 0 none).off v_112.toList) e)) fun F =>
      Spec prog 53 #[(Sl.v v_86), (Sl.v v_92)] F fun v F => ∃ v_117 : Bool, v = (.bool v_117) ∧
      ((v_117 = true →
       ((v_86_1 = v_92_1 →
        ((v_97 = v_102 →
         (((v_97_1 == v_102_1) = true →
          ∃ v_134 : Array Value, v_134.size = 2 ∧ F.row (Addr.mk b24 0 none) v_134 ∧
          ∃ v_135 : Array Value, v_135.size = 2 ∧ F.row (Addr.mk b26 0 none) v_135 ∧
          Spec prog 39 #[(.agg v_134), (.agg v_135)] F fun v F => ∃ v_136 : Bool, v = (.bool v_136) ∧
          ((v_136 = true →
           ((v_107_1 = v_112_1 →
            ∃ v_144 : Array Value, v_144.size = 2 ∧ F.row (Addr.mk b3 0 none) v_144 ∧
            ∃ v_147 : Array Value, v_147.size = 2 ∧ F.row (Addr.mk b3 0 none) v_147 ∧
            Spec prog 21 #[(.agg v_144), (.int .u64 cc)] F fun v F => ∃ v_146 : Bool, v = (.bool v_146) ∧
            F.row (Addr.mk b3 0 none) v_147 ∧ Spec prog 54 #[(.agg v_147), (.int .u64 cc)] F fun v F => ∃ v_149 : Bool, v = (.bool v_149) ∧
            (((v_146 == v_149) = true →
             ∃ v_153 : Array Value, v_153.size = 2 ∧ F.row (Addr.mk b3 0 none) v_153 ∧
             ∃ v_155 : Array Value, v_155.size = 2 ∧ F.row (Addr.mk b3 0 none) v_155 ∧
             Spec prog 56 #[(.agg v_153)] F fun v F => ∃ v_154 : Sl, v = (Sl.v v_154) ∧
             F.row (Addr.mk b3 0 none) v_155 ∧ Spec prog 57 #[(.agg v_155)] F fun v F => ∃ v_156 : Sl, v = (Sl.v v_156) ∧
             Spec prog 55 #[(Sl.v v_154), (Sl.v v_156)] F fun v F => ∃ v_157 : Bool, v = (.bool v_157) ∧
             ((v_157 = true →
              R (.bool true) F) ∧
             (v_157 = false →
              R (.bool false) F))) ∧
            ((v_146 == v_149) = false →
             R (.bool false) F))) ∧
           (¬ (v_107_1 = v_112_1) →
            R (.bool false) F))) ∧
          (v_136 = false →
           R (.bool false) F))) ∧
         ((v_97_1 == v_102_1) = false →
          R (.bool false) F))) ∧
        (¬ (v_97 = v_102) →
         R (.bool false) F))) ∧
       (¬ (v_86_1 = v_92_1) →
        R (.bool false) F))) ∧
      (v_117 = false →
       R (.bool false) F))))))))))) F0 := by
  have h := VX.start F0
  refine ⟨va, ha.size, h.row q3, ?_⟩
  have sp := restrict_spec (ha.le h.l0) vv (decide ((Int.tmod cc 2) = 1))
  refine (h.callG sp).mono ?_
  clear sp
  rintro _ F1 ⟨G1, ⟨w1, rfl, hw1⟩, lG1, h1⟩
  clear h
  have h := h1
  clear h1
  refine ⟨w1, _, rfl, ?_⟩
  refine h.new hw1 fun b8 F h => ?_
  refine ⟨va, ha.size, h.row q3, ?_⟩
  have sp := restrict_ref fa (ha.le h.l0) vv (decide ((Int.tmod cc 2) = 1))
  refine (h.callG sp).mono ?_
  clear sp
  rintro _ F2 ⟨G2, ⟨w2, rfl, hw2⟩, lG2, h2⟩
  clear h
  have h := h2
  clear h2
  refine ⟨w2, _, rfl, ?_⟩
  refine h.new hw2 fun b10 F h => ?_
  refine ⟨va, ha.size, h.row q3, ?_⟩
  have sp := exists_spec (ha.le h.l0) vv
  refine (h.callG sp).mono ?_
  clear sp
  rintro _ F3 ⟨G3, ⟨w3, rfl, hw3⟩, lG3, h3⟩
  clear h
  have h := h3
  clear h3
  refine ⟨w3, _, rfl, ?_⟩
  refine h.new hw3 fun b12 F h => ?_
  refine ⟨va, ha.size, h.row q3, ?_⟩
  have sp := exists_ref fa (ha.le h.l0) vv
  refine (h.callG sp).mono ?_
  clear sp
  rintro _ F4 ⟨G4, ⟨w4, rfl, hw4⟩, lG4, h4⟩
  clear h
  have h := h4
  clear h4
  refine ⟨w4, _, rfl, ?_⟩
  refine h.new hw4 fun b14 F h => ?_
  refine ⟨w1, (h.dv (b := b8) (w := w1) (d := (resD a vv (decide ((Int.tmod cc 2) = 1))).1) (by simp)).size, h.get (b := b8) (w := w1) (d := (resD a vv (decide ((Int.tmod cc 2) = 1))).1) (by simp), w2, (h.dv (b := b10) (w := w2) (d := (resD a vv (decide ((Int.tmod cc 2) = 1))).1) (by simp)).size, h.get (b := b10) (w := w2) (d := (resD a vv (decide ((Int.tmod cc 2) = 1))).1) (by simp), ?_⟩
  have sp := rsame_spec (h.dv (b := b8) (w := w1) (d := (resD a vv (decide ((Int.tmod cc 2) = 1))).1) (by simp)) (h.dv (b := b10) (w := w2) (d := (resD a vv (decide ((Int.tmod cc 2) = 1))).1) (by simp)) (Nat.le_trans (res_fit _ _ _) (by omega))
  refine (h.callG sp).mono ?_
  clear sp
  rintro _ F5 ⟨G5, rfl, lG5, h5⟩
  clear h
  have h := h5
  clear h5
  refine ⟨_, rfl, fun hh => by simp at hh, fun _ => ?_⟩
  refine ⟨fun hh => absurd rfl hh, fun _ => ?_⟩
  refine ⟨w3, (h.dv (b := b12) (w := w3) (d := (exD a vv).1) (by simp)).size, h.get (b := b12) (w := w3) (d := (exD a vv).1) (by simp), w4, (h.dv (b := b14) (w := w4) (d := (exD a vv).1) (by simp)).size, h.get (b := b14) (w := w4) (d := (exD a vv).1) (by simp), ?_⟩
  have sp := rsame_spec (h.dv (b := b12) (w := w3) (d := (exD a vv).1) (by simp)) (h.dv (b := b14) (w := w4) (d := (exD a vv).1) (by simp)) (Nat.le_trans (ex_fit _ _) (by omega))
  refine (h.callG sp).mono ?_
  clear sp
  rintro _ F6 ⟨G6, rfl, lG6, h6⟩
  clear h
  have h := h6
  clear h6
  refine ⟨_, rfl, fun hh => by simp at hh, fun _ => ?_⟩
  refine ⟨fun hh => absurd rfl hh, fun _ => ?_⟩
  refine ⟨va, ha.size, h.row q3, ?_⟩
  have sp := count3 (count_spec (ha.le h.l0) vv)
  refine (h.callG sp).mono ?_
  clear sp
  rintro _ F7 ⟨G7, ⟨s1, rfl, n1⟩, lG7, h7⟩
  clear h
  have h := h7
  clear h7
  refine ⟨_, _, rfl, ?_⟩
  refine ⟨va, ha.size, h.row q3, ?_⟩
  have sp := count3 (count_ref fa (ha.le h.l0) vv)
  refine (h.callG sp).mono ?_
  clear sp
  rintro _ F8 ⟨G8, ⟨s2, rfl, n2⟩, lG8, h8⟩
  clear h
  have h := h8
  clear h8
  replace n1 := n1.le lG8
  refine ⟨_, _, rfl, ?_⟩
  refine ⟨va, ha.size, h.row q3, ?_⟩
  have sp := least_spec (ha.le h.l0)
  refine (h.callG sp).mono ?_
  clear sp
  rintro _ F9 ⟨G9, rfl, lG9, h9⟩
  clear h
  have h := h9
  clear h9
  replace n1 := n1.le lG9
  replace n2 := n2.le lG9
  refine ⟨_, _, rfl, ?_⟩
  refine ⟨va, ha.size, h.row q3, ?_⟩
  have sp := least_ref fa (ha.le h.l0)
  refine (h.callG sp).mono ?_
  clear sp
  rintro _ F10 ⟨G10, rfl, lG10, h10⟩
  clear h
  have h := h10
  clear h10
  replace n1 := n1.le lG10
  replace n2 := n2.le lG10
  refine ⟨_, _, rfl, ?_⟩
  have sp := var_spec (F := G10) vv
  refine (h.callG sp).mono ?_
  clear sp
  rintro _ F11 ⟨G11, ⟨w11, rfl, hw11⟩, lG11, h11⟩
  clear h
  have h := h11
  clear h11
  replace n1 := n1.le lG11
  replace n2 := n2.le lG11
  refine ⟨w11, _, rfl, ?_⟩
  refine h.new hw11 fun b24 F h => ?_
  have sp := rvar_spec (F := G11) vv
  refine (h.callG sp).mono ?_
  clear sp
  rintro _ F12 ⟨G12, ⟨w12, rfl, hw12⟩, lG12, h12⟩
  clear h
  have h := h12
  clear h12
  replace n1 := n1.le lG12
  replace n2 := n2.le lG12
  refine ⟨w12, _, rfl, ?_⟩
  refine h.new hw12 fun b26 F h => ?_
  have sp := (sameNat_spec n1 n2 (lm_small (countD_le a vv))).mono fun r F' hh => (⟨hh.1, hh.2 ▸ PH.le_rfl⟩ : r = .bool true ∧ G12.le F')
  refine (h.callG sp).mono ?_
  clear sp
  rintro _ F13 ⟨G13, rfl, lG13, h13⟩
  clear h
  have h := h13
  clear h13
  replace n1 := n1.le lG13
  replace n2 := n2.le lG13
  refine ⟨_, rfl, fun _ => ⟨fun _ => ⟨fun _ => ⟨fun _ => ?_, fun hh => by simp at hh⟩, fun hh => absurd rfl hh⟩, fun hh => absurd rfl hh⟩, fun hh => by cases hh⟩
  refine ⟨w11, (h.dv (b := b24) (w := w11) (d := (varD vv).1) (by simp)).size, h.get (b := b24) (w := w11) (d := (varD vv).1) (by simp), w12, (h.dv (b := b26) (w := w12) (d := (varD vv).1) (by simp)).size, h.get (b := b26) (w := w12) (d := (varD vv).1) (by simp), ?_⟩
  have sp := rsame_spec (h.dv (b := b24) (w := w11) (d := (varD vv).1) (by simp)) (h.dv (b := b26) (w := w12) (d := (varD vv).1) (by simp)) (Nat.le_trans (var_fit _) (by omega))
  refine (h.callG sp).mono ?_
  clear sp
  rintro _ F14 ⟨G14, rfl, lG14, h14⟩
  clear h
  have h := h14
  clear h14
  replace n1 := n1.le lG14
  replace n2 := n2.le lG14
  refine ⟨_, rfl, fun _ => ⟨fun _ => ?_, fun hh => absurd rfl hh⟩, fun hh => by simp at hh⟩
  refine ⟨va, ha.size, h.row q3, va, ha.size, h.row q3, ?_⟩
  have sp := holds_spec (ha.le h.l0) c0 c1
  refine (h.callG sp).mono ?_
  clear sp
  rintro _ F15 ⟨G15, rfl, lG15, h15⟩
  clear h
  have h := h15
  clear h15
  replace n1 := n1.le lG15
  replace n2 := n2.le lG15
  refine ⟨_, rfl, h.row q3, ?_⟩
  have sp := holds_ref fa (ha.le h.l0) c0 c1
  refine (h.callG sp).mono ?_
  clear sp
  rintro _ F16 ⟨G16, rfl, lG16, h16⟩
  clear h
  have h := h16
  clear h16
  replace n1 := n1.le lG16
  replace n2 := n2.le lG16
  refine ⟨_, rfl, fun _ => ?_, fun hh => by simp at hh⟩
  refine ⟨va, ha.size, h.row q3, va, ha.size, h.row q3, ?_⟩
  have sp := supp3 (support_spec (ha.le h.l0))
  refine (h.callG sp).mono ?_
  clear sp
  rintro _ F17 ⟨G17, ⟨s3, rfl, n3⟩, lG17, h17⟩
  clear h
  have h := h17
  clear h17
  replace n1 := n1.le lG17
  replace n2 := n2.le lG17
  refine ⟨_, rfl, h.row q3, ?_⟩
  have sp := supp3 (support_ref fa (ha.le h.l0))
  refine (h.callG sp).mono ?_
  clear sp
  rintro _ F18 ⟨G18, ⟨s4, rfl, n4⟩, lG18, h18⟩
  clear h
  have h := h18
  clear h18
  replace n1 := n1.le lG18
  replace n2 := n2.le lG18
  replace n3 := n3.le lG18
  refine ⟨_, rfl, ?_⟩
  have sp := (sameInts_spec n3 n4 (supD_small fa)).mono fun r F' hh => (⟨hh.1, hh.2 ▸ PH.le_rfl⟩ : r = .bool true ∧ G18.le F')
  refine (h.callG sp).mono ?_
  clear sp
  rintro _ F19 ⟨G19, rfl, lG19, h19⟩
  clear h
  have h := h19
  clear h19
  replace n1 := n1.le lG19
  replace n2 := n2.le lG19
  replace n3 := n3.le lG19
  replace n4 := n4.le lG19
  exact ⟨_, rfl, fun _ => hR _ h.le, fun hh => by cases hh⟩
end
set_option maxHeartbeats 4000000 in
theorem parts_spec {F : PH} {va : Array Value} {a : Dia} {v c : Int} (ha : DV F va a) (c0 : 0 ≤ c) (c1 : c < 18446744073709551616) : Spec prog 12 #[.agg va, vi v, .int .u64 c] F fun r F' => r = .bool true ∧ F.le F' := by
  refine c12 ?_
  unfold b12
  intro b3 hb3
  refine atI ?_
  have l3 := le_set_fresh (.cells va 28) hb3
  have q3 := set_eq F b3 (.cells va 28)
  generalize F.set b3 (.cells va 28) = F3 at *
  refine (sanity_spec F3).mono ?_
  rintro _ F6 ⟨rfl, l6⟩
  replace q3 := l6 _ _ q3
  replace l6 := l3.trans l6
  refine ⟨_, rfl, va, ha.size, row_whole q3, ?_⟩
  refine (few_spec (ha.le l6)).mono ?_
  rintro _ F7 ⟨rfl, l7⟩
  replace q3 := l7 _ _ q3
  replace l7 := l6.trans l7
  refine ⟨_, rfl, fun _ => ⟨rfl, l7⟩, fun fa => ?_⟩
  exact parts_go (R := fun r F' => r = .bool true ∧ F.le F') (by simpa using fa) (ha.le l7) q3 c0 c1 fun F' h => ⟨rfl, l7.trans h⟩
end Go.Proofs.Ytafojmoeaneedaa

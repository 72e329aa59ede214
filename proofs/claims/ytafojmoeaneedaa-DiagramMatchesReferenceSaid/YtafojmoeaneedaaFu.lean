/-
  DiagramMatchesReference: the walk.
-/
import Derived.Test.YtafojmoeaneedaaEt
import Derived.Test.YtafojmoeaneedaaFs
import Derived.Test.YtafojmoeaneedaaFt
import Derived.Test.YtafojmoeaneedaaGL10
namespace Go.Proofs.Ytafojmoeaneedaa
open Go Go.Proofs.Try Tr
set_option maxRecDepth 10000

section
variable {F0 : PH} {va vb vc : Array Value} {a b c : Dia} {b3 b4 b5 : Nat}
set_option maxHeartbeats 4000000 in
theorem matches_go (fa : Few a) (fb : Few b) (fc : Few c) (ha : DV F0 va a) (hb : DV F0 vb b) (hc : DV F0 vc c) (q3 : F0 b3 = some (.cells va 28)) (q4 : F0 b4 = some (.cells vb 28)) (q5 : F0 b5 = some (.cells vc 28))
    {R : Value → PH → Prop} (hR : ∀ F', F0.le F' → R (.bool true) F') : (fun F =>
 ∃ v_32 : Array Value, v_32.size = 2 ∧ F.row (Addr.mk b3 0 none) v_32 ∧
    ∃ v_33 : Array Value, v_33.size = 2 ∧ F.row (Addr.mk b4 0 none) v_33 ∧
    Spec prog 19 #[(.agg v_32), (.agg v_33)] F fun v F => ∃ v_34 : Array Value, ∃ v_34_1 : Int, v = (.tuple #[(.agg v_34), (.int .i64 v_34_1)]) ∧
    ∀ b8, F b8 = none → atF (F.set b8 (.cells (#[.slice none 0 0, .int .i64 0]) 28)) fun F =>
    v_34.size = 2 ∧ (∀ v ∈ v_34.toList, storable v) ∧ ∃ c e, F (Addr.mk b8 0 none).block = some (.cells c e (0, 0)) ∧ (Addr.mk b8 0 none).spot = none ∧ (Addr.mk b8 0 none).off + 2 ≤ c.size ∧
    atF (F.set (Addr.mk b8 0 none).block (.cells (wr c (Addr.mk b8 0 none).off v_34.toList) e)) fun F =>
    ∃ v_38 : Array Value, v_38.size = 2 ∧ F.row (Addr.mk b3 0 none) v_38 ∧
    ∃ v_39 : Array Value, v_39.size = 2 ∧ F.row (Addr.mk b4 0 none) v_39 ∧
    Spec prog 37 #[(.agg v_38), (.agg v_39)] F fun v F => ∃ v_40 : Array Value, ∃ v_40_1 : Int, v = (.tuple #[(.agg v_40), (.int .i64 v_40_1)]) ∧
    ∀ b10, F b10 = none → atF (F.set b10 (.cells (#[.slice none 0 0, .int .i64 0]) 28)) fun F =>
    v_40.size = 2 ∧ (∀ v ∈ v_40.toList, storable v) ∧ ∃ c e, F (Addr.mk b10 0 none).block = some (.cells c e (0, 0)) ∧ (Addr.mk b10 0 none).spot = none ∧ (Addr.mk b10 0 none).off + 2 ≤ c.size ∧
    atF (F.set (Addr.mk b10 0 none).block (.cells (wr c (Addr.mk b10 0 none).off v_40.toList) e)) fun F =>
    ∃ v_44 : Array Value, v_44.size = 2 ∧ F.row (Addr.mk b3 0 none) v_44 ∧
    ∃ v_45 : Array Value, v_45.size = 2 ∧ F.row (Addr.mk b4 0 none) v_45 ∧
    Spec prog 22 #[(.agg v_44), (.agg v_45)] F fun v F => ∃ v_46 : Array Value, ∃ v_46_1 : Int, v = (.tuple #[(.agg v_46), (.int .i64 v_46_1)]) ∧
    ∀ b12, F b12 = none → atF (F.set b12 (.cells (#[.slice none 0 0, .int .i64 0]) 28)) fun F =>
    v_46.size = 2 ∧ (∀ v ∈ v_46.toList, storable v) ∧ ∃ c e, F (Addr.mk b12 0 none).block = some (.cells c e (0, 0)) ∧ (Addr.mk b12 0 none).spot = none ∧ (Addr.mk b12 0 none).off + 2 ≤ c.size ∧
    atF (F.set (Addr.mk b12 0 none).block (.cells (wr c (Addr.mk b12 0 none).off v_46.toList) e)) fun F =>
    ∃ v_50 : Array Value, v_50.size = 2 ∧ F.row (Addr.mk b3 0 none) v_50 ∧
    ∃ v_51 : Array Value, v_51.size = 2 ∧ F.row (Addr.mk b4 0 none) v_51 ∧
    Spec prog 38 #[(.agg v_50), (.agg v_51)] F fun v F => ∃ v_52 : Array Value, ∃ v_52_1 : Int, v = (.tuple #[(.agg v_52), (.int .i64 v_52_1)]) ∧
    ∀ b14, F b14 = none → atF (F.set b14 (.cells (#[.slice none 0 0, .int .i64 0]) 28)) fun F =>
    v_52.size = 2 ∧ (∀ v ∈ v_52.toList, storable v) ∧ ∃ c e, F (Addr.mk b14 0 none).block = some (.cells c e (0, 0)) ∧ (Addr.mk b14 0 none).spot = none ∧ (Addr.mk b14 0 none).off + 2 ≤ c.size ∧
    atF (F.set (Addr.mk b14 0 none).block (.cells (wr c (Addr.mk b14 0 none).off v_52.toList) e)) fun F =>
    ∃ v_55 : Array Value, v_55.size = 2 ∧ F.row (Addr.mk b8 0 none) v_55 ∧
    ∃ v_56 : Array Value, v_56.size = 2 ∧ F.row (Addr.mk b10 0 none) v_56 ∧
    Spec prog 39 #[(.agg v_55), (.agg v_56)] F fun v F => ∃ v_57 : Bool, v = (.bool v_57) ∧
    (((!v_57) = true →
     R (.bool false) F) ∧
    ((!v_57) = false →
     ((v_34_1 ≠ v_40_1 →
      R (.bool false) F) ∧
     (¬ (v_34_1 ≠ v_40_1) →
      ∃ v_65 : Array Value, v_65.size = 2 ∧ F.row (Addr.mk b12 0 none) v_65 ∧
      ∃ v_66 : Array Value, v_66.size = 2 ∧ F.row (Addr.mk b14 0 none) v_66 ∧
      Spec prog 39 #[(.agg v_65), (.agg v_66)] F fun v F => ∃ v_67 : Bool, v = (.bool v_67) ∧
      (((!v_67) = true →
       R (.bool false) F) ∧
      ((!v_67) = false →
       ((v_46_1 ≠ v_52_1 →
        R (.bool false) F) ∧
       (¬ (v_46_1 ≠ v_52_1) →
        ∃ v_76 : Array Value, v_76.size = 2 ∧ F.row (Addr.mk b3 0 none) v_76 ∧
        ∃ v_78 : Array Value, v_78.size = 2 ∧ F.row (Addr.mk b3 0 none) v_78 ∧
        Spec prog 23 #[(.agg v_76)] F fun v F => ∃ v_77 : Int, v = (.int .i64 v_77) ∧
        F.row (Addr.mk b3 0 none) v_78 ∧ Spec prog 40 #[(.agg v_78)] F fun v F => ∃ v_79 : Int, v = (.int .i64 v_79) ∧
        ((v_77 ≠ v_79 →
         R (.bool false) F) ∧
        (¬ (v_77 ≠ v_79) →
         ∃ v_83 : Array Value, v_83.size = 2 ∧ F.row (Addr.mk b3 0 none) v_83 ∧
         ∃ v_84 : Array Value, v_84.size = 2 ∧ F.row (Addr.mk b4 0 none) v_84 ∧
         ∃ v_86 : Array Value, v_86.size = 2 ∧ F.row (Addr.mk b3 0 none) v_86 ∧
         ∃ v_87 : Array Value, v_87.size = 2 ∧ F.row (Addr.mk b4 0 none) v_87 ∧
         Spec prog 24 #[(.agg v_83), (.agg v_84)] F fun v F => ∃ v_85 : Bool, v = (.bool v_85) ∧
         F.row (Addr.mk b4 0 none) v_87 ∧ F.row (Addr.mk b3 0 none) v_86 ∧ Spec prog 39 #[(.agg v_86), (.agg v_87)] F fun v F => ∃ v_88 : Bool, v = (.bool v_88) ∧
         (((!(v_85 == v_88)) = true →
          R (.bool false) F) ∧
         ((!(v_85 == v_88)) = false →
          ∃ v_92 : Array Value, v_92.size = 2 ∧ F.row (Addr.mk b3 0 none) v_92 ∧
          ∃ v_93 : Array Value, v_93.size = 2 ∧ F.row (Addr.mk b4 0 none) v_93 ∧
          Spec prog 26 #[(.agg v_92), (.agg v_93)] F fun v F => ∃ v_94 : Array Value, ∃ v_94_1 : Int, v = (.tuple #[(.agg v_94), (.int .i64 v_94_1)]) ∧
          v_94.size = 2 ∧ (∀ v ∈ v_94.toList, storable v) ∧ ∃ c e, F (Addr.mk b8 0 none).block = some (.cells c e (0, 0)) ∧ (Addr.mk b8 0 none).spot = none ∧ (Addr.mk b8 0 none).off + 2 ≤ c.size ∧
          atF (F.set (Addr.mk b8 0 none).block (.cells (wr c (Addr.mk b8 0 none).off v_94.toList) e)) fun F =>
          ∃ v_98 : Array Value, v_98.size = 2 ∧ F.row (Addr.mk b3 0 none) v_98 ∧
          ∃ v_99 : Array Value, v_99.size = 2 ∧ F.row (Addr.mk b4 0 none) v_99 ∧
          Spec prog 41 #[(.agg v_98), (.agg v_99)] F fun v F => ∃ v_100 : Array Value, ∃ v_100_1 : Int, v = (.tuple #[(.agg v_100), (.int .i64 v_100_1)]) ∧
          v_100.size = 2 ∧ (∀ v ∈ v_100.toList, storable v) ∧ ∃ c e, F (Addr.mk b10 0 none).block = some (.cells c e (0, 0)) ∧ (Addr.mk b10 0 none).spot = none ∧ (Addr.mk b10 0 none).off + 2 ≤ c.size ∧
          atF (F.set (Addr.mk b10 0 none).block (.cells (wr c (Addr.mk b10 0 none).off v_100.toList) e)) fun F =>
          ∃ v_104 : Array Value, v_104.size = 2 ∧ F.row (Addr.mk b3 0 none) v_104 ∧
          ∃ v_105 : Array Value, v_105.size = 2 ∧ F.row (Addr.mk b4 0 none) v_105 ∧
          ∃ v_106 : Array Value, v_106.size = 2 ∧ F.row (Addr.mk b5 0 none) v_106 ∧
          Spec prog 27 #[(.agg v_104), (.agg v_105), (.agg v_106)] F fun v F => ∃ v_107 : Array Value, ∃ v_107_1 : Int, v = (.tuple #[(.agg v_107), (.int .i64 v_107_1)]) ∧
          v_107.size = 2 ∧ (∀ v ∈ v_107.toList, storable v) ∧ ∃ c e, F (Addr.mk b12 0 none).block = some (.cells c e (0, 0)) ∧ (Addr.mk b12 0 none).spot = none ∧ (Addr.mk b12 0 none).off + 2 ≤ c.size ∧
          atF (F.set (Addr.mk b12 0 none).block (.cells (wr c (Addr.mk b12 0 none).off v_107.toList) e)) fun F =>
          ∃ v_111 : Array Value, v_111.size = 2 ∧ F.row (Addr.mk b3 0 none) v_111 ∧
          ∃ v_112 : Array Value, v_112.size = 2 ∧ F.row (Addr.mk b4 0 none) v_112 ∧
          ∃ v_113 : Array Value, v_113.size = 2 ∧ F.row (Addr.mk b5 0 none) v_113 ∧
          Spec prog 42 #[(.agg v_111), (.agg v_112), (.agg v_113)] F fun v F => ∃ v_114 : Array Value, ∃ v_114_1 : Int, v = (.tuple #[(.agg v_114), (.int .i64 v_114_1)]) ∧
          v_114.size = 2 ∧ (∀ v ∈ v_114.toList, storable v) ∧ ∃ c e, F (Addr.mk b14 0 none).block = some (.cells c e (0, 0)) ∧ (Addr.mk b14 0 none).spot = none ∧ (Addr.mk b14 0 none).off + 2 ≤ c.size ∧
          atF (F.set (Addr.mk b14 0 none).block (.cells (wr c (Addr.mk b14 0 none).off v_114.toList) e)) fun F =>
          ∃ v_117 : Array Value, v_117.size = 2 ∧ F.row (Addr.mk b8 0 none) v_117 ∧
          ∃ v_118 : Array Value, v_118.size = 2 ∧ F.row (Addr.mk b10 0 none) v_118 ∧
          Spec prog 39 #[(.agg v_117), (.agg v_118)] F fun v F => ∃ v_119 : Bool, v = (.bool v_119) ∧
          (((!v_119) = true →
           R (.bool false) F) ∧
          ((!v_119) = false →
           ((v_94_1 ≠ v_100_1 →
            R (.bool false) F) ∧
           (¬ (v_94_1 ≠ v_100_1) →
            ∃ v_127 : Array Value, v_127.size = 2 ∧ F.row (Addr.mk b12 0 none) v_127 ∧
            ∃ v_128 : Array Value, v_128.size = 2 ∧ F.row (Addr.mk b14 0 none) v_128 ∧
            Spec prog 39 #[(.agg v_127), (.agg v_128)] F fun v F => ∃ v_129 : Bool, v = (.bool v_129) ∧
            (((!v_129) = true →
             R (.bool false) F) ∧
            ((!v_129) = false →
             ((v_107_1 ≠ v_114_1 →
              R (.bool false) F) ∧
             (¬ (v_107_1 ≠ v_114_1) →
              ∃ v_138 : Array Value, v_138.size = 2 ∧ F.row (Addr.mk b3 0 none) v_138 ∧
              Spec prog 25 #[(.agg v_138)] F fun v F => ∃ v_139 : Array Value, ∃ v_139_1 : Int, v = (.tuple #[(.agg v_139), (.int .i64 v_139_1)]) ∧
              v_139.size = 2 ∧ (∀ v ∈ v_139.toList, storable v) ∧ ∃ c e, F (Addr.mk b8 0 none).block = some (.cells c e (0, 0)) ∧ (Addr.mk b8 0 none).spot = none ∧ (Addr.mk b8 0 none).off + 2 ≤ c.size ∧
              atF (F.set (Addr.mk b8 0 none).block (.cells (wr c (Addr.mk b8 0 none).off v_139.toList) e)) fun F =>
              ∃ v_143 : Array Value, v_143.size = 2 ∧ F.row (Addr.mk b3 0 none) v_143 ∧
              Spec prog 43 #[(.agg v_143)] F fun v F => ∃ v_144 : Array Value, ∃ v_144_1 : Int, v = (.tuple #[(.agg v_144), (.int .i64 v_144_1)]) ∧
              v_144.size = 2 ∧ (∀ v ∈ v_144.toList, storable v) ∧ ∃ c e, F (Addr.mk b10 0 none).block = some (.cells c e (0, 0)) ∧ (Addr.mk b10 0 none).spot = none ∧ (Addr.mk b10 0 none).off + 2 ≤ c.size ∧
              atF (F.set (Addr.mk b10 0 none).block (.cells (wr c (Addr.mk b10 0 none).off v_144.toList) e)) fun F =>
              ∃ v_147 : Array Value, v_147.size = 2 ∧ F.row (Addr.mk b8 0 none) v_147 ∧
              ∃ v_148 : Array Value, v_148.size = 2 ∧ F.row (Addr.mk b10 0 none) v_148 ∧
              Spec prog 39 #[(.agg v_147), (.agg v_148)] F fun v F => ∃ v_149 : Bool, v = (.bool v_149) ∧
              ((v_149 = true →
               ((v_139_1 = v_144_1 →
                ∃ v_156 : Array Value, v_156.size = 2 ∧ F.row (Addr.mk b3 0 none) v_156 ∧
                ∃ v_157 : Array Value, v_157.size = 2 ∧ F.row (Addr.mk b4 0 none) v_157 ∧
                ∃ v_159 : Array Value, v_159.size = 2 ∧ F.row (Addr.mk b3 0 none) v_159 ∧
                ∃ true0 : Array Value, true0.size = 2 ∧ F.row (Addr.mk b4 0 none) true0 ∧
                Spec prog 44 #[(.agg v_156), (.agg v_157)] F fun v F => ∃ v_158 : Bool, v = (.bool v_158) ∧
                F.row (Addr.mk b4 0 none) true0 ∧ F.row (Addr.mk b3 0 none) v_159 ∧ Spec prog 45 #[(.agg v_159), (.agg true0)] F fun v F => ∃ true1 : Bool, v = (.bool true1) ∧
                (((v_158 == true1) = true →
                 ∃ true5 : Array Value, true5.size = 2 ∧ F.row (Addr.mk b3 0 none) true5 ∧
                 ∃ true6 : Array Value, true6.size = 2 ∧ F.row (Addr.mk b4 0 none) true6 ∧
                 ∃ true8 : Array Value, true8.size = 2 ∧ F.row (Addr.mk b3 0 none) true8 ∧
                 ∃ true9 : Array Value, true9.size = 2 ∧ F.row (Addr.mk b4 0 none) true9 ∧
                 Spec prog 46 #[(.agg true5), (.agg true6)] F fun v F => ∃ true7 : Bool, v = (.bool true7) ∧
                 F.row (Addr.mk b4 0 none) true9 ∧ F.row (Addr.mk b3 0 none) true8 ∧ Spec prog 47 #[(.agg true8), (.agg true9)] F fun v F => ∃ v_170 : Bool, v = (.bool v_170) ∧
                 (((true7 == v_170) = true →
                  R (.bool true) F) ∧
                 ((true7 == v_170) = false →
                  R (.bool false) F))) ∧
                ((v_158 == true1) = false →
                 R (.bool false) F))) ∧
               (¬ (v_139_1 = v_144_1) →
                R (.bool false) F))) ∧
              (v_149 = false →
               R (.bool false) F))))))))))))))))))))))) F0 := by
  have h := VX.start F0
  refine ⟨va, ha.size, h.row q3, vb, hb.size, h.row q4, ?_⟩
  have sp := and_spec (ha.le h.l0) (hb.le h.l0)
  refine (h.call sp).mono ?_
  clear sp
  rintro _ F2 ⟨G2, ⟨w1, rfl, hw1⟩, h2⟩
  clear h
  have h := h2
  clear h2
  refine ⟨w1, _, rfl, ?_⟩
  refine h.new hw1 fun b8 F h => ?_
  refine ⟨va, ha.size, h.row q3, vb, hb.size, h.row q4, ?_⟩
  have sp := and_ref fa fb (ha.le h.l0) (hb.le h.l0)
  refine (h.call sp).mono ?_
  clear sp
  rintro _ F4 ⟨G4, ⟨w3, rfl, hw3⟩, h4⟩
  clear h
  have h := h4
  clear h4
  refine ⟨w3, _, rfl, ?_⟩
  refine h.new hw3 fun b10 F h => ?_
  refine ⟨va, ha.size, h.row q3, vb, hb.size, h.row q4, ?_⟩
  have sp := or_spec (ha.le h.l0) (hb.le h.l0)
  refine (h.call sp).mono ?_
  clear sp
  rintro _ F6 ⟨G6, ⟨w5, rfl, hw5⟩, h6⟩
  clear h
  have h := h6
  clear h6
  refine ⟨w5, _, rfl, ?_⟩
  refine h.new hw5 fun b12 F h => ?_
  refine ⟨va, ha.size, h.row q3, vb, hb.size, h.row q4, ?_⟩
  have sp := or_ref fa fb (ha.le h.l0) (hb.le h.l0)
  refine (h.call sp).mono ?_
  clear sp
  rintro _ F8 ⟨G8, ⟨w7, rfl, hw7⟩, h8⟩
  clear h
  have h := h8
  clear h8
  refine ⟨w7, _, rfl, ?_⟩
  refine h.new hw7 fun b14 F h => ?_
  refine ⟨w1, (h.dv (b := b8) (w := w1) (d := (bin oAnd a b).1) (by simp)).size, h.get (b := b8) (w := w1) (d := (bin oAnd a b).1) (by simp), w3, (h.dv (b := b10) (w := w3) (d := (bin oAnd a b).1) (by simp)).size, h.get (b := b10) (w := w3) (d := (bin oAnd a b).1) (by simp), ?_⟩
  have sp := rsame_spec (h.dv (b := b8) (w := w1) (d := (bin oAnd a b).1) (by simp)) (h.dv (b := b10) (w := w3) (d := (bin oAnd a b).1) (by simp)) (Nat.le_trans (bin_fit _ _ _) (by omega))
  refine (h.call sp).mono ?_
  clear sp
  rintro _ F9 ⟨G9, rfl, h9⟩
  clear h
  have h := h9
  clear h9
  refine ⟨_, rfl, fun hh => by simp at hh, fun _ => ?_⟩
  refine ⟨fun hh => absurd rfl hh, fun _ => ?_⟩
  refine ⟨w5, (h.dv (b := b12) (w := w5) (d := (bin oOr a b).1) (by simp)).size, h.get (b := b12) (w := w5) (d := (bin oOr a b).1) (by simp), w7, (h.dv (b := b14) (w := w7) (d := (bin oOr a b).1) (by simp)).size, h.get (b := b14) (w := w7) (d := (bin oOr a b).1) (by simp), ?_⟩
  have sp := rsame_spec (h.dv (b := b12) (w := w5) (d := (bin oOr a b).1) (by simp)) (h.dv (b := b14) (w := w7) (d := (bin oOr a b).1) (by simp)) (Nat.le_trans (bin_fit _ _ _) (by omega))
  refine (h.call sp).mono ?_
  clear sp
  rintro _ F10 ⟨G10, rfl, h10⟩
  clear h
  have h := h10
  clear h10
  refine ⟨_, rfl, fun hh => by simp at hh, fun _ => ?_⟩
  refine ⟨fun hh => absurd rfl hh, fun _ => ?_⟩
  refine ⟨va, ha.size, h.row q3, va, ha.size, h.row q3, ?_⟩
  refine (h.call (check_spec (ha.le h.l0))).mono ?_
  rintro _ F11 ⟨G11, rfl, h11⟩
  clear h
  have h := h11
  clear h11
  refine ⟨_, rfl, h.row q3, ?_⟩
  refine (h.call (check_ref (ha.le h.l0) (by have : a.1.length ≤ 40 := fa; omega))).mono ?_
  rintro _ F12 ⟨G12, rfl, h12⟩
  clear h
  have h := h12
  clear h12
  refine ⟨_, rfl, ?_⟩
  refine ⟨fun hh => absurd rfl hh, fun _ => ?_⟩
  refine ⟨va, ha.size, h.row q3, vb, hb.size, h.row q4, va, ha.size, h.row q3, vb, hb.size, h.row q4, ?_⟩
  refine (h.call (same_spec (ha.le h.l0) (hb.le h.l0) (by have : a.1.length ≤ 40 := fa; omega))).mono ?_
  rintro _ F13 ⟨G13, rfl, h13⟩
  clear h
  have h := h13
  clear h13
  refine ⟨_, rfl, h.row q4, h.row q3, ?_⟩
  refine (h.call (rsame_spec (ha.le h.l0) (hb.le h.l0) (by have : a.1.length ≤ 40 := fa; omega))).mono ?_
  rintro _ F14 ⟨G14, rfl, h14⟩
  clear h
  have h := h14
  clear h14
  refine ⟨_, rfl, fun hh => by simp at hh, fun _ => ?_⟩
  refine ⟨va, ha.size, h.row q3, vb, hb.size, h.row q4, ?_⟩
  have sp := xor_spec (ha.le h.l0) (hb.le h.l0)
  refine (h.call sp).mono ?_
  clear sp
  rintro _ F16 ⟨G16, ⟨w15, rfl, hw15⟩, h16⟩
  clear h
  have h := h16
  clear h16
  refine ⟨w15, _, rfl, ?_⟩
  refine VX.assign [(b14, w7, (bin oOr a b).1), (b12, w5, (bin oOr a b).1), (b10, w3, (bin oAnd a b).1)] [] (b := b8) (w0 := w1) (d0 := (bin oAnd a b).1) h hw15 fun F h => ?_
  replace h : VX F0 F _ [(b14, w7, (bin oOr a b).1), (b12, w5, (bin oOr a b).1), (b10, w3, (bin oAnd a b).1), (b8, w15, (bin oXor a b).1)] := h
  refine ⟨va, ha.size, h.row q3, vb, hb.size, h.row q4, ?_⟩
  have sp := xor_ref fa fb (ha.le h.l0) (hb.le h.l0)
  refine (h.call sp).mono ?_
  clear sp
  rintro _ F18 ⟨G18, ⟨w17, rfl, hw17⟩, h18⟩
  clear h
  have h := h18
  clear h18
  refine ⟨w17, _, rfl, ?_⟩
  refine VX.assign [(b14, w7, (bin oOr a b).1), (b12, w5, (bin oOr a b).1)] [(b8, w15, (bin oXor a b).1)] (b := b10) (w0 := w3) (d0 := (bin oAnd a b).1) h hw17 fun F h => ?_
  replace h : VX F0 F _ [(b14, w7, (bin oOr a b).1), (b12, w5, (bin oOr a b).1), (b10, w17, (bin oXor a b).1), (b8, w15, (bin oXor a b).1)] := h
  refine ⟨va, ha.size, h.row q3, vb, hb.size, h.row q4, vc, hc.size, h.row q5, ?_⟩
  have sp := choose_spec (ha.le h.l0) (hb.le h.l0) (hc.le h.l0)
  refine (h.call sp).mono ?_
  clear sp
  rintro _ F20 ⟨G20, ⟨w19, rfl, hw19⟩, h20⟩
  clear h
  have h := h20
  clear h20
  refine ⟨w19, _, rfl, ?_⟩
  refine VX.assign [(b14, w7, (bin oOr a b).1)] [(b10, w17, (bin oXor a b).1), (b8, w15, (bin oXor a b).1)] (b := b12) (w0 := w5) (d0 := (bin oOr a b).1) h hw19 fun F h => ?_
  replace h : VX F0 F _ [(b14, w7, (bin oOr a b).1), (b12, w19, (cho a b c).1), (b10, w17, (bin oXor a b).1), (b8, w15, (bin oXor a b).1)] := h
  refine ⟨va, ha.size, h.row q3, vb, hb.size, h.row q4, vc, hc.size, h.row q5, ?_⟩
  have sp := choose_ref fa fb fc (ha.le h.l0) (hb.le h.l0) (hc.le h.l0)
  refine (h.call sp).mono ?_
  clear sp
  rintro _ F22 ⟨G22, ⟨w21, rfl, hw21⟩, h22⟩
  clear h
  have h := h22
  clear h22
  refine ⟨w21, _, rfl, ?_⟩
  refine VX.assign [] [(b12, w19, (cho a b c).1), (b10, w17, (bin oXor a b).1), (b8, w15, (bin oXor a b).1)] (b := b14) (w0 := w7) (d0 := (bin oOr a b).1) h hw21 fun F h => ?_
  replace h : VX F0 F _ [(b14, w21, (cho a b c).1), (b12, w19, (cho a b c).1), (b10, w17, (bin oXor a b).1), (b8, w15, (bin oXor a b).1)] := h
  refine ⟨w15, (h.dv (b := b8) (w := w15) (d := (bin oXor a b).1) (by simp)).size, h.get (b := b8) (w := w15) (d := (bin oXor a b).1) (by simp), w17, (h.dv (b := b10) (w := w17) (d := (bin oXor a b).1) (by simp)).size, h.get (b := b10) (w := w17) (d := (bin oXor a b).1) (by simp), ?_⟩
  have sp := rsame_spec (h.dv (b := b8) (w := w15) (d := (bin oXor a b).1) (by simp)) (h.dv (b := b10) (w := w17) (d := (bin oXor a b).1) (by simp)) (Nat.le_trans (bin_fit _ _ _) (by omega))
  refine (h.call sp).mono ?_
  clear sp
  rintro _ F23 ⟨G23, rfl, h23⟩
  clear h
  have h := h23
  clear h23
  refine ⟨_, rfl, fun hh => by simp at hh, fun _ => ?_⟩
  refine ⟨fun hh => absurd rfl hh, fun _ => ?_⟩
  refine ⟨w19, (h.dv (b := b12) (w := w19) (d := (cho a b c).1) (by simp)).size, h.get (b := b12) (w := w19) (d := (cho a b c).1) (by simp), w21, (h.dv (b := b14) (w := w21) (d := (cho a b c).1) (by simp)).size, h.get (b := b14) (w := w21) (d := (cho a b c).1) (by simp), ?_⟩
  have sp := rsame_spec (h.dv (b := b12) (w := w19) (d := (cho a b c).1) (by simp)) (h.dv (b := b14) (w := w21) (d := (cho a b c).1) (by simp)) (Nat.le_trans (cho_fit _ _ _) (by omega))
  refine (h.call sp).mono ?_
  clear sp
  rintro _ F24 ⟨G24, rfl, h24⟩
  clear h
  have h := h24
  clear h24
  refine ⟨_, rfl, fun hh => by simp at hh, fun _ => ?_⟩
  refine ⟨fun hh => absurd rfl hh, fun _ => ?_⟩
  refine ⟨va, ha.size, h.row q3, ?_⟩
  have sp := not_spec (ha.le h.l0)
  refine (h.call sp).mono ?_
  clear sp
  rintro _ F26 ⟨G26, ⟨w25, rfl, hw25⟩, h26⟩
  clear h
  have h := h26
  clear h26
  refine ⟨w25, _, rfl, ?_⟩
  refine VX.assign [(b14, w21, (cho a b c).1), (b12, w19, (cho a b c).1), (b10, w17, (bin oXor a b).1)] [] (b := b8) (w0 := w15) (d0 := (bin oXor a b).1) h hw25 fun F h => ?_
  replace h : VX F0 F _ [(b14, w21, (cho a b c).1), (b12, w19, (cho a b c).1), (b10, w17, (bin oXor a b).1), (b8, w25, (bin (fun x _ => !x) a none0).1)] := h
  refine ⟨va, ha.size, h.row q3, ?_⟩
  have sp := not_ref fa (ha.le h.l0)
  refine (h.call sp).mono ?_
  clear sp
  rintro _ F28 ⟨G28, ⟨w27, rfl, hw27⟩, h28⟩
  clear h
  have h := h28
  clear h28
  refine ⟨w27, _, rfl, ?_⟩
  refine VX.assign [(b14, w21, (cho a b c).1), (b12, w19, (cho a b c).1)] [(b8, w25, (bin (fun x _ => !x) a none0).1)] (b := b10) (w0 := w17) (d0 := (bin oXor a b).1) h hw27 fun F h => ?_
  replace h : VX F0 F _ [(b14, w21, (cho a b c).1), (b12, w19, (cho a b c).1), (b10, w27, (bin (fun x _ => !x) a none0).1), (b8, w25, (bin (fun x _ => !x) a none0).1)] := h
  refine ⟨w25, (h.dv (b := b8) (w := w25) (d := (bin (fun x _ => !x) a none0).1) (by simp)).size, h.get (b := b8) (w := w25) (d := (bin (fun x _ => !x) a none0).1) (by simp), w27, (h.dv (b := b10) (w := w27) (d := (bin (fun x _ => !x) a none0).1) (by simp)).size, h.get (b := b10) (w := w27) (d := (bin (fun x _ => !x) a none0).1) (by simp), ?_⟩
  have sp := rsame_spec (h.dv (b := b8) (w := w25) (d := (bin (fun x _ => !x) a none0).1) (by simp)) (h.dv (b := b10) (w := w27) (d := (bin (fun x _ => !x) a none0).1) (by simp)) (Nat.le_trans (bin_fit _ _ _) (by omega))
  refine (h.call sp).mono ?_
  clear sp
  rintro _ F29 ⟨G29, rfl, h29⟩
  clear h
  have h := h29
  clear h29
  refine ⟨_, rfl, fun _ => ⟨fun _ => ?_, fun hh => absurd rfl hh⟩, fun hh => by simp at hh⟩
  refine ⟨va, ha.size, h.row q3, vb, hb.size, h.row q4, va, ha.size, h.row q3, vb, hb.size, h.row q4, ?_⟩
  refine (h.call (within_spec (ha.le h.l0) (hb.le h.l0))).mono ?_
  rintro _ F30 ⟨G30, rfl, h30⟩
  clear h
  have h := h30
  clear h30
  refine ⟨_, rfl, h.row q4, h.row q3, ?_⟩
  refine (h.call (within_ref fa fb (ha.le h.l0) (hb.le h.l0))).mono ?_
  rintro _ F31 ⟨G31, rfl, h31⟩
  clear h
  have h := h31
  clear h31
  refine ⟨_, rfl, fun _ => ?_, fun hh => by simp at hh⟩
  refine ⟨va, ha.size, h.row q3, vb, hb.size, h.row q4, va, ha.size, h.row q3, vb, hb.size, h.row q4, ?_⟩
  refine (h.call (disjoint_spec (ha.le h.l0) (hb.le h.l0))).mono ?_
  rintro _ F32 ⟨G32, rfl, h32⟩
  clear h
  have h := h32
  clear h32
  refine ⟨_, rfl, h.row q4, h.row q3, ?_⟩
  refine (h.call (disjoint_ref fa fb (ha.le h.l0) (hb.le h.l0))).mono ?_
  rintro _ F33 ⟨G33, rfl, h33⟩
  clear h
  have h := h33
  clear h33
  refine ⟨_, rfl, fun _ => ?_, fun hh => by simp at hh⟩
  exact hR _ h.le
end
set_option maxHeartbeats 4000000 in
theorem matches_spec {F : PH} {va vb vc : Array Value} {a b c : Dia} (ha : DV F va a) (hb : DV F vb b) (hc : DV F vc c) : Spec prog 10 #[.agg va, .agg vb, .agg vc] F fun r F' => r = .bool true ∧ F.le F' := by
  refine c10 ?_
  unfold b10
  intro b3 hb3
  refine atI ?_
  have l3 := le_set_fresh (.cells va 28) hb3
  have q3 := set_eq F b3 (.cells va 28)
  generalize F.set b3 (.cells va 28) = F3 at *
  intro b4 hb4
  refine atI ?_
  have lx := le_set_fresh (.cells vb 28) hb4
  have q4 := set_eq F3 b4 (.cells vb 28)
  replace q3 := lx _ _ q3
  have l4 := l3.trans lx
  generalize F3.set b4 (.cells vb 28) = F4 at *
  intro b5 hb5
  refine atI ?_
  have ly := le_set_fresh (.cells vc 28) hb5
  have q5 := set_eq F4 b5 (.cells vc 28)
  replace q3 := ly _ _ q3
  replace q4 := ly _ _ q4
  have l5 := l4.trans ly
  generalize F4.set b5 (.cells vc 28) = F5 at *
  refine (sanity_spec F5).mono ?_
  rintro _ F6 ⟨rfl, l6⟩
  replace q3 := l6 _ _ q3
  replace q4 := l6 _ _ q4
  replace q5 := l6 _ _ q5
  replace l6 := l5.trans l6
  refine ⟨_, rfl, va, ha.size, row_whole q3, ?_⟩
  refine (few_spec (ha.le l6)).mono ?_
  rintro _ F7 ⟨rfl, l7⟩
  replace q3 := l7 _ _ q3
  replace q4 := l7 _ _ q4
  replace q5 := l7 _ _ q5
  replace l7 := l6.trans l7
  refine ⟨_, rfl, fun _ => ⟨rfl, l7⟩, fun fa => ⟨vb, hb.size, row_whole q4, ?_⟩⟩
  refine (few_spec (hb.le l7)).mono ?_
  rintro _ F8 ⟨rfl, l8⟩
  replace q3 := l8 _ _ q3
  replace q4 := l8 _ _ q4
  replace q5 := l8 _ _ q5
  replace l8 := l7.trans l8
  refine ⟨_, rfl, fun _ => ⟨rfl, l8⟩, fun fb => ⟨vc, hc.size, row_whole q5, ?_⟩⟩
  refine (few_spec (hc.le l8)).mono ?_
  rintro _ F9 ⟨rfl, l9⟩
  replace q3 := l9 _ _ q3
  replace q4 := l9 _ _ q4
  replace q5 := l9 _ _ q5
  replace l9 := l8.trans l9
  refine ⟨_, rfl, fun _ => ⟨rfl, l9⟩, fun fc => ?_⟩
  exact matches_go (R := fun r F' => r = .bool true ∧ F.le F') (by simpa using fa) (by simpa using fb) (by simpa using fc) (ha.le l9) (hb.le l9) (hc.le l9) q3 q4 q5 fun F' h => ⟨rfl, l9.trans h⟩
end Go.Proofs.Ytafojmoeaneedaa

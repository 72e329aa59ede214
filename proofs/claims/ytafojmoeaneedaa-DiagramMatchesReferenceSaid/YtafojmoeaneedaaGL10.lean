/-
  What functions of the program do, in a clean form, each with the proof that its code does so. Printed by a program.
-/
import Derived.Test.YtafojmoeaneedaaGf
import Derived.Test.YtafojmoeaneedaaPho
namespace Go.Proofs.Ytafojmoeaneedaa
open Go Go.Proofs.Try
set_option maxRecDepth 10000
set_option maxHeartbeats 4000000
/- 10 koine.koinelaw02.DiagramMatchesReference -/
def b10 (a_0 : Array Value) (b_1 : Array Value) (c_2 : Array Value) (R : Value → PH → Prop) (F : PH) : Prop :=
 ∀ b3, F b3 = none → atF (F.set b3 (.cells a_0 28)) fun F =>
 ∀ b4, F b4 = none → atF (F.set b4 (.cells b_1 28)) fun F =>
 ∀ b5, F b5 = none → atF (F.set b5 (.cells c_2 28)) fun F =>
 Spec prog 15 #[] F fun v F => ∃ v_16 : Bool, v = (.bool v_16) ∧
 ∃ v_17 : Array Value, v_17.size = 2 ∧ F.row (Addr.mk b3 0 none) v_17 ∧
 Spec prog 36 #[(.agg v_17)] F fun v F => ∃ v_18 : Bool, v = (.bool v_18) ∧
 (((!v_18) = true →
  R (.bool v_16) F) ∧
 ((!v_18) = false →
  ∃ v_21 : Array Value, v_21.size = 2 ∧ F.row (Addr.mk b4 0 none) v_21 ∧
  Spec prog 36 #[(.agg v_21)] F fun v F => ∃ v_22 : Bool, v = (.bool v_22) ∧
  (((!v_22) = true →
   R (.bool v_16) F) ∧
  ((!v_22) = false →
   ∃ v_26 : Array Value, v_26.size = 2 ∧ F.row (Addr.mk b5 0 none) v_26 ∧
   Spec prog 36 #[(.agg v_26)] F fun v F => ∃ v_27 : Bool, v = (.bool v_27) ∧
   (((!v_27) = true →
    R (.bool v_16) F) ∧
   ((!v_27) = false →
    ∃ v_32 : Array Value, v_32.size = 2 ∧ F.row (Addr.mk b3 0 none) v_32 ∧
    ∃ v_33 : Array Value, v_33.size = 2 ∧ F.row (Addr.mk b4 0 none) v_33 ∧
    Spec prog 19 #[(.agg v_32), (.agg v_33)] F fun v F => ∃ v_34 : Array Value, ∃ v_34_1 : Int, v = (.tuple #[(.agg v_34), (.int .i64 v_34_1)]) ∧
    ∀ b8, F b8 = none → atF (F.set b8 (.cells (#[.slice none 0 0, .int .i64 0]) 28)) fun F =>
    v_34.size = 2 ∧ (∀ v ∈ v_34.toList, storable v) ∧ ∃ c e, F (Addr.mk b8 0 none).block = some (.cells c e (0, 0)) ∧ (Addr.mk b8 0 none).spot = none ∧ (Addr.mk b8 0 none).off + 2 ≤ c.size ∧
    atF (F.set (Addr.mk b8 0 none).block (.cells (wr c (Addr.mk b8 0 none).off v_34.toList) e)) fun F =>
    ∃ v_38 : Array Value, v_38.size = 2 ∧ F.row (Addr.mk b3 0 none) v_38 ∧
    ∃ v_39 : Array Value, v_39.size = 2 ∧ F.row (Addr.mk b4 0 none) v_39 ∧
    Spec prog 37 #[(.agg v_38), (.agg v_39)] F fun v F => ∃ v_40 : Array Value, ∃ v_40_1 : Int, v = (.tuple #[(.agg v_40), (.int .i64 v_40_1)]) ∧
    ∀ b10, F b10 = none → atF (F.set b10 (.cells (#[.slice none 0 0, .int .i64 0]) 28)) fun F =>
    v_40.size = 2 ∧ (∀ v ∈ v_40.toList, storable v) ∧ ∃ c e, F (Addr.mk b10 0 none).block = some (.cells c e (0, 0)) ∧ (Addr.mk b10 0 none).spot = none ∧ (Addr.mk b10 0 none).off + 2 ≤ c.size ∧
    atF (F.set (Addr.mk b10 0 none).block (.cells (wr c (Addr.mk b10 0 none).off v_40.toList) e)) fun F =>
    ∃ v_44 : Array Value, v_44.size = 2 ∧ F.row (Addr.mk b3 0 none) v_44 ∧
    ∃ v_45 : Array Value, v_45.size = 2 ∧ F.row (Addr.mk b4 0 none) v_45 ∧
    Spec prog 22 #[(.agg v_44), (.agg v_45)] F fun v F => ∃ v_46 : Array Value, ∃ v_46_1 : Int, v = (.tuple #[(.agg v_46), (.int .i64 v_46_1)]) ∧
    ∀ b12, F b12 = none → atF (F.set b12 (.cells (#[.slice none 0 0, .int .i64 0]) 28)) fun F =>
    v_46.size = 2 ∧ (∀ v ∈ v_46.toList, storable v) ∧ ∃ c e, F (Addr.mk b12 0 none).block = some (.cells c e (0, 0)) ∧ (Addr.mk b12 0 none).spot = none ∧ (Addr.mk b12 0 none).off + 2 ≤ c.size ∧
    atF (F.set (Addr.mk b12 0 none).block (.cells (wr c (Addr.mk b12 0 none).off v_46.toList) e)) fun F =>
    ∃ v_50 : Array Value, v_50.size = 2 ∧ F.row (Addr.mk b3 0 none) v_50 ∧
    ∃ v_51 : Array Value, v_51.size = 2 ∧ F.row (Addr.mk b4 0 none) v_51 ∧
    Spec prog 38 #[(.agg v_50), (.agg v_51)] F fun v F => ∃ v_52 : Array Value, ∃ v_52_1 : Int, v = (.tuple #[(.agg v_52), (.int .i64 v_52_1)]) ∧
    ∀ b14, F b14 = none → atF (F.set b14 (.cells (#[.slice none 0 0, .int .i64 0]) 28)) fun F =>
    v_52.size = 2 ∧ (∀ v ∈ v_52.toList, storable v) ∧ ∃ c e, F (Addr.mk b14 0 none).block = some (.cells c e (0, 0)) ∧ (Addr.mk b14 0 none).spot = none ∧ (Addr.mk b14 0 none).off + 2 ≤ c.size ∧
    atF (F.set (Addr.mk b14 0 none).block (.cells (wr c (Addr.mk b14 0 none).off v_52.toList) e)) fun F =>
    ∃ v_55 : Array Value, v_55.size = 2 ∧ F.row (Addr.mk b8 0 none) v_55 ∧
    ∃ v_56 : Array Value, v_56.size = 2 ∧ F.row (Addr.mk b10 0 none) v_56 ∧
    Spec prog 39 #[(.agg v_55), (.agg v_56)] F fun v F => ∃ v_57 : Bool, v = (.bool v_57) ∧
    (((!v_57) = true →
     R (.bool false) F) ∧
    ((!v_57) = false →
     ((v_34_1 ≠ v_40_1 →
      R (.bool false) F) ∧
     (¬ (v_34_1 ≠ v_40_1) →
      ∃ v_65 : Array Value, v_65.size = 2 ∧ F.row (Addr.mk b12 0 none) v_65 ∧
      ∃ v_66 : Array Value, v_66.size = 2 ∧ F.row (Addr.mk b14 0 none) v_66 ∧
      Spec prog 39 #[(.agg v_65), (.agg v_66)] F fun v F => ∃ v_67 : Bool, v = (.bool v_67) ∧
      (((!v_67) = true →
       R (.bool false) F) ∧
      ((!v_67) = false →
       ((v_46_1 ≠ v_52_1 →
        R (.bool false) F) ∧
       (¬ (v_46_1 ≠ v_52_1) →
        ∃ v_76 : Array Value, v_76.size = 2 ∧ F.row (Addr.mk b3 0 none) v_76 ∧
        ∃ v_78 : Array Value, v_78.size = 2 ∧ F.row (Addr.mk b3 0 none) v_78 ∧
        Spec prog 23 #[(.agg v_76)] F fun v F => ∃ v_77 : Int, v = (.int .i64 v_77) ∧
        F.row (Addr.mk b3 0 none) v_78 ∧ Spec prog 40 #[(.agg v_78)] F fun v F => ∃ v_79 : Int, v = (.int .i64 v_79) ∧
        ((v_77 ≠ v_79 →
         R (.bool false) F) ∧
        (¬ (v_77 ≠ v_79) →
         ∃ v_83 : Array Value, v_83.size = 2 ∧ F.row (Addr.mk b3 0 none) v_83 ∧
         ∃ v_84 : Array Value, v_84.size = 2 ∧ F.row (Addr.mk b4 0 none) v_84 ∧
         ∃ v_86 : Array Value, v_86.size = 2 ∧ F.row (Addr.mk b3 0 none) v_86 ∧
         ∃ v_87 : Array Value, v_87.size = 2 ∧ F.row (Addr.mk b4 0 none) v_87 ∧
         Spec prog 24 #[(.agg v_83), (.agg v_84)] F fun v F => ∃ v_85 : Bool, v = (.bool v_85) ∧
         F.row (Addr.mk b4 0 none) v_87 ∧ F.row (Addr.mk b3 0 none) v_86 ∧ Spec prog 39 #[(.agg v_86), (.agg v_87)] F fun v F => ∃ v_88 : Bool, v = (.bool v_88) ∧
         (((!(v_85 == v_88)) = true →
          R (.bool false) F) ∧
         ((!(v_85 == v_88)) = false →
          ∃ v_92 : Array Value, v_92.size = 2 ∧ F.row (Addr.mk b3 0 none) v_92 ∧
          ∃ v_93 : Array Value, v_93.size = 2 ∧ F.row (Addr.mk b4 0 none) v_93 ∧
          Spec prog 26 #[(.agg v_92), (.agg v_93)] F fun v F => ∃ v_94 : Array Value, ∃ v_94_1 : Int, v = (.tuple #[(.agg v_94), (.int .i64 v_94_1)]) ∧
          v_94.size = 2 ∧ (∀ v ∈ v_94.toList, storable v) ∧ ∃ c e, F (Addr.mk b8 0 none).block = some (.cells c e (0, 0)) ∧ (Addr.mk b8 0 none).spot = none ∧ (Addr.mk b8 0 none).off + 2 ≤ c.size ∧
          atF (F.set (Addr.mk b8 0 none).block (.cells (wr c (Addr.mk b8 0 none).off v_94.toList) e)) fun F =>
          ∃ v_98 : Array Value, v_98.size = 2 ∧ F.row (Addr.mk b3 0 none) v_98 ∧
          ∃ v_99 : Array Value, v_99.size = 2 ∧ F.row (Addr.mk b4 0 none) v_99 ∧
          Spec prog 41 #[(.agg v_98), (.agg v_99)] F fun v F => ∃ v_100 : Array Value, ∃ v_100_1 : Int, v = (.tuple #[(.agg v_100), (.int .i64 v_100_1)]) ∧
          v_100.size = 2 ∧ (∀ v ∈ v_100.toList, storable v) ∧ ∃ c e, F (Addr.mk b10 0 none).block = some (.cells c e (0, 0)) ∧ (Addr.mk b10 0 none).spot = none ∧ (Addr.mk b10 0 none).off + 2 ≤ c.size ∧
          atF (F.set (Addr.mk b10 0 none).block (.cells (wr c (Addr.mk b10 0 none).off v_100.toList) e)) fun F =>
          ∃ v_104 : Array Value, v_104.size = 2 ∧ F.row (Addr.mk b3 0 none) v_104 ∧
          ∃ v_105 : Array Value, v_105.size = 2 ∧ F.row (Addr.mk b4 0 none) v_105 ∧
          ∃ v_106 : Array Value, v_106.size = 2 ∧ F.row (Addr.mk b5 0 none) v_106 ∧
          Spec prog 27 #[(.agg v_104), (.agg v_105), (.agg v_106)] F fun v F => ∃ v_107 : Array Value, ∃ v_107_1 : Int, v = (.tuple #[(.agg v_107), (.int .i64 v_107_1)]) ∧
          v_107.size = 2 ∧ (∀ v ∈ v_107.toList, storable v) ∧ ∃ c e, F (Addr.mk b12 0 none).block = some (.cells c e (0, 0)) ∧ (Addr.mk b12 0 none).spot = none ∧ (Addr.mk b12 0 none).off + 2 ≤ c.size ∧
          atF (F.set (Addr.mk b12 0 none).block (.cells (wr c (Addr.mk b12 0 none).off v_107.toList) e)) fun F =>
          ∃ v_111 : Array Value, v_111.size = 2 ∧ F.row (Addr.mk b3 0 none) v_111 ∧
          ∃ v_112 : Array Value, v_112.size = 2 ∧ F.row (Addr.mk b4 0 none) v_112 ∧
          ∃ v_113 : Array Value, v_113.size = 2 ∧ F.row (Addr.mk b5 0 none) v_113 ∧
          Spec prog 42 #[(.agg v_111), (.agg v_112), (.agg v_113)] F fun v F => ∃ v_114 : Array Value, ∃ v_114_1 : Int, v = (.tuple #[(.agg v_114), (.int .i64 v_114_1)]) ∧
          v_114.size = 2 ∧ (∀ v ∈ v_114.toList, storable v) ∧ ∃ c e, F (Addr.mk b14 0 none).block = some (.cells c e (0, 0)) ∧ (Addr.mk b14 0 none).spot = none ∧ (Addr.mk b14 0 none).off + 2 ≤ c.size ∧
          atF (F.set (Addr.mk b14 0 none).block (.cells (wr c (Addr.mk b14 0 none).off v_114.toList) e)) fun F =>
          ∃ v_117 : Array Value, v_117.size = 2 ∧ F.row (Addr.mk b8 0 none) v_117 ∧
          ∃ v_118 : Array Value, v_118.size = 2 ∧ F.row (Addr.mk b10 0 none) v_118 ∧
          Spec prog 39 #[(.agg v_117), (.agg v_118)] F fun v F => ∃ v_119 : Bool, v = (.bool v_119) ∧
          (((!v_119) = true →
           R (.bool false) F) ∧
          ((!v_119) = false →
           ((v_94_1 ≠ v_100_1 →
            R (.bool false) F) ∧
           (¬ (v_94_1 ≠ v_100_1) →
            ∃ v_127 : Array Value, v_127.size = 2 ∧ F.row (Addr.mk b12 0 none) v_127 ∧
            ∃ v_128 : Array Value, v_128.size = 2 ∧ F.row (Addr.mk b14 0 none) v_128 ∧
            Spec prog 39 #[(.agg v_127), (.agg v_128)] F fun v F => ∃ v_129 : Bool, v = (.bool v_129) ∧
            (((!v_129) = true →
             R (.bool false) F) ∧
            ((!v_129) = false →
             ((v_107_1 ≠ v_114_1 →
              R (.bool false) F) ∧
             (¬ (v_107_1 ≠ v_114_1) →
              ∃ v_138 : Array Value, v_138.size = 2 ∧ F.row (Addr.mk b3 0 none) v_138 ∧
              Spec prog 25 #[(.agg v_138)] F fun v F => ∃ v_139 : Array Value, ∃ v_139_1 : Int, v = (.tuple #[(.agg v_139), (.int .i64 v_139_1)]) ∧
              v_139.size = 2 ∧ (∀ v ∈ v_139.toList, storable v) ∧ ∃ c e, F (Addr.mk b8 0 none).block = some (.cells c e (0, 0)) ∧ (Addr.mk b8 0 none).spot = none ∧ (Addr.mk b8 0 none).off + 2 ≤ c.size ∧
              atF (F.set (Addr.mk b8 0 none).block (.cells (wr c (Addr.mk b8 0 none).off v_139.toList) e)) fun F =>
              ∃ v_143 : Array Value, v_143.size = 2 ∧ F.row (Addr.mk b3 0 none) v_143 ∧
              Spec prog 43 #[(.agg v_143)] F fun v F => ∃ v_144 : Array Value, ∃ v_144_1 : Int, v = (.tuple #[(.agg v_144), (.int .i64 v_144_1)]) ∧
              v_144.size = 2 ∧ (∀ v ∈ v_144.toList, storable v) ∧ ∃ c e, F (Addr.mk b10 0 none).block = some (.cells c e (0, 0)) ∧ (Addr.mk b10 0 none).spot = none ∧ (Addr.mk b10 0 none).off + 2 ≤ c.size ∧
              atF (F.set (Addr.mk b10 0 none).block (.cells (wr c (Addr.mk b10 0 none).off v_144.toList) e)) fun F =>
              ∃ v_147 : Array Value, v_147.size = 2 ∧ F.row (Addr.mk b8 0 none) v_147 ∧
              ∃ v_148 : Array Value, v_148.size = 2 ∧ F.row (Addr.mk b10 0 none) v_148 ∧
              Spec prog 39 #[(.agg v_147), (.agg v_148)] F fun v F => ∃ v_149 : Bool, v = (.bool v_149) ∧
              ((v_149 = true →
               ((v_139_1 = v_144_1 →
                ∃ v_156 : Array Value, v_156.size = 2 ∧ F.row (Addr.mk b3 0 none) v_156 ∧
                ∃ v_157 : Array Value, v_157.size = 2 ∧ F.row (Addr.mk b4 0 none) v_157 ∧
                ∃ v_159 : Array Value, v_159.size = 2 ∧ F.row (Addr.mk b3 0 none) v_159 ∧
                ∃ v_160 : Array Value, v_160.size = 2 ∧ F.row (Addr.mk b4 0 none) v_160 ∧
                Spec prog 44 #[(.agg v_156), (.agg v_157)] F fun v F => ∃ v_158 : Bool, v = (.bool v_158) ∧
                F.row (Addr.mk b4 0 none) v_160 ∧ F.row (Addr.mk b3 0 none) v_159 ∧ Spec prog 45 #[(.agg v_159), (.agg v_160)] F fun v F => ∃ v_161 : Bool, v = (.bool v_161) ∧
                (((v_158 == v_161) = true →
                 ∃ v_165 : Array Value, v_165.size = 2 ∧ F.row (Addr.mk b3 0 none) v_165 ∧
                 ∃ v_166 : Array Value, v_166.size = 2 ∧ F.row (Addr.mk b4 0 none) v_166 ∧
                 ∃ v_168 : Array Value, v_168.size = 2 ∧ F.row (Addr.mk b3 0 none) v_168 ∧
                 ∃ v_169 : Array Value, v_169.size = 2 ∧ F.row (Addr.mk b4 0 none) v_169 ∧
                 Spec prog 46 #[(.agg v_165), (.agg v_166)] F fun v F => ∃ v_167 : Bool, v = (.bool v_167) ∧
                 F.row (Addr.mk b4 0 none) v_169 ∧ F.row (Addr.mk b3 0 none) v_168 ∧ Spec prog 47 #[(.agg v_168), (.agg v_169)] F fun v F => ∃ v_170 : Bool, v = (.bool v_170) ∧
                 (((v_167 == v_170) = true →
                  R (.bool v_16) F) ∧
                 ((v_167 == v_170) = false →
                  R (.bool false) F))) ∧
                ((v_158 == v_161) = false →
                 R (.bool false) F))) ∧
               (¬ (v_139_1 = v_144_1) →
                R (.bool false) F))) ∧
              (v_149 = false →
               R (.bool false) F))))))))))))))))))))))))))))
theorem c10 {a_0 : Array Value} {b_1 : Array Value} {c_2 : Array Value} {R : Value → PH → Prop} {F : PH} (h : b10 a_0 b_1 c_2 R F) : Spec prog 10 #[(.agg a_0), (.agg b_1), (.agg c_2)] F R := by
 refine spec_of (args := [(.agg a_0), (.agg b_1), (.agg c_2)]) func10 rfl ntmps10 rfl ?_
 unfold b10 at h
 refine cR ?_
 refine s_ef (k_box (cs := a_0) rfl rfl ?_)
 intro b3 hf_b3
 replace h := atE (h b3 hf_b3)
 refine s_ef (k_box (cs := b_1) rfl rfl ?_)
 intro b4 hf_b4
 replace h := atE (h b4 hf_b4)
 refine s_ef (k_box (cs := c_2) rfl rfl ?_)
 intro b5 hf_b5
 replace h := atE (h b5 hf_b5)
 refine sR (.bool false) (r_assign rfl rfl) ?_
 refine HL_nil ?_
 refine cR ?_
 refine s_ef (k_call (vs := []) cb15 evN (h.mono ?_))
 clear h; rintro v F ⟨v_16, rfl, h⟩
 refine sR (.bool v_16) (r_assign rfl rfl) ?_
 refine HL_nil ?_
 refine HC_seq ?_
 refine cR ?_
 obtain ⟨v_17, hs17, hc17, h⟩ := h
 refine sR (.agg v_17) (w_loadN rfl underlying28 rfl sz28 hs17 hc17) ?_
 refine s_ef (k_call (vs := [(.agg v_17)]) cb36 (evC rfl evN) (h.mono ?_))
 clear h; rintro v F ⟨v_18, rfl, h⟩
 refine sR (.bool (!v_18)) (r_not rfl rfl) ?_
 refine sR (.bool (!v_18)) (r_move rfl rfl) ?_
 by_cases hc : (!v_18) = true
 ·
  replace h := h.1 hc
  refine kN 19 hc ?_
  refine kN 20 hc ?_
  refine s_skip ?_
  refine s_skip ?_
  refine s_skip ?_
  refine sR (.bool true) (r_pick rfl rfl (fun _ => rfl) (fun h => by cases h)) ?_
  refine sR (.bool true) (r_move rfl rfl) ?_
  refine s_skip ?_
  refine s_skip ?_
  refine s_skip ?_
  refine sR (.bool true) (r_pick rfl rfl (fun _ => rfl) (fun h => by cases h)) ?_
  refine HL_nil ?_
  refine HC_condT rfl ?_
  refine cR ?_
  refine sR (.bool v_16) (r_move rfl rfl) ?_
  refine sR (.bool v_16) (r_assign rfl rfl) ?_
  refine HL_nil ?_
  exact HC_ret (show endQ prog f10 R .ret _ _ from ⟨_, res1 rfl (rv_tmp rfl), h⟩)
 ·
  replace hc := eq_false_of_ne_true hc; replace h := h.2 hc
  refine kN 19 hc ?_
  refine kN 20 hc ?_
  obtain ⟨v_21, hs21, hc21, h⟩ := h
  refine sR (.agg v_21) (w_loadN rfl underlying28 rfl sz28 hs21 hc21) ?_
  refine s_ef (k_call (vs := [(.agg v_21)]) cb36 (evC rfl evN) (h.mono ?_))
  clear h; rintro v F ⟨v_22, rfl, h⟩
  refine sR (.bool (!v_22)) (r_not rfl rfl) ?_
  refine sR (.bool (!v_22)) (r_pick rfl rfl (fun h => by cases h) (fun _ => rfl)) ?_
  refine sR (.bool (!v_22)) (r_move rfl rfl) ?_
  by_cases hc : (!v_22) = true
  ·
   replace h := h.1 hc
   refine kN 23 hc ?_
   refine kN 24 hc ?_
   refine kN 25 hc ?_
   refine s_skip ?_
   refine s_skip ?_
   refine s_skip ?_
   refine sR (.bool true) (r_pick rfl rfl (fun _ => rfl) (fun h => by cases h)) ?_
   refine HL_nil ?_
   refine HC_condT rfl ?_
   refine cR ?_
   refine sR (.bool v_16) (r_move rfl rfl) ?_
   refine sR (.bool v_16) (r_assign rfl rfl) ?_
   refine HL_nil ?_
   exact HC_ret (show endQ prog f10 R .ret _ _ from ⟨_, res1 rfl (rv_tmp rfl), h⟩)
  ·
   replace hc := eq_false_of_ne_true hc; replace h := h.2 hc
   refine kN 23 hc ?_
   refine kN 24 hc ?_
   refine kN 25 hc ?_
   obtain ⟨v_26, hs26, hc26, h⟩ := h
   refine sR (.agg v_26) (w_loadN rfl underlying28 rfl sz28 hs26 hc26) ?_
   refine s_ef (k_call (vs := [(.agg v_26)]) cb36 (evC rfl evN) (h.mono ?_))
   clear h; rintro v F ⟨v_27, rfl, h⟩
   refine sR (.bool (!v_27)) (r_not rfl rfl) ?_
   refine sR (.bool (!v_27)) (r_pick rfl rfl (fun h => by cases h) (fun _ => rfl)) ?_
   refine HL_nil ?_
   refine HC_cond (t := (!v_27)) rfl (fun hc => ?_) (fun hc => ?_)
   ·
    replace h := h.1 hc
    clear hc
    refine cR ?_
    refine sR (.bool v_16) (r_move rfl rfl) ?_
    refine sR (.bool v_16) (r_assign rfl rfl) ?_
    refine HL_nil ?_
    exact HC_ret (show endQ prog f10 R .ret _ _ from ⟨_, res1 rfl (rv_tmp rfl), h⟩)
   ·
    replace h := h.2 hc
    clear hc
    refine HC_skip ?_
    refine cR ?_
    obtain ⟨v_32, hs32, hc32, h⟩ := h
    refine sR (.agg v_32) (w_loadN rfl underlying28 rfl sz28 hs32 hc32) ?_
    obtain ⟨v_33, hs33, hc33, h⟩ := h
    refine sR (.agg v_33) (w_loadN rfl underlying28 rfl sz28 hs33 hc33) ?_
    refine s_ef (k_call (vs := [(.agg v_32), (.agg v_33)]) cb19 (evC rfl (evC rfl evN)) (h.mono ?_))
    clear h; rintro v F ⟨v_34, v_34_1, rfl, h⟩
    refine sR (.tuple #[(.agg v_34), (.int .i64 v_34_1)]) (r_move rfl rfl) ?_
    refine sR (.agg v_34) (r_extract rfl rfl rfl) ?_
    refine sR (.int .i64 v_34_1) (r_extract rfl rfl rfl) ?_
    refine s_ef (k_alloc zr28 ?_)
    intro b8 hf_b8
    replace h := atE (h b8 hf_b8)
    refine s_ef0 (k_storeN (vs := v_34) rfl rfl sz28 (by decide) ?_)
    obtain ⟨hz1, hz2, c, e, hz3, hz4, hz5, h⟩ := h
    refine ⟨hz1, hz2, c, e, hz3, hz4, hz5, ?_⟩
    replace h := atE h
    refine sR (.int .i64 v_34_1) (r_assign rfl rfl) ?_
    refine HL_nil ?_
    refine cR ?_
    obtain ⟨v_38, hs38, hc38, h⟩ := h
    refine sR (.agg v_38) (w_loadN rfl underlying28 rfl sz28 hs38 hc38) ?_
    obtain ⟨v_39, hs39, hc39, h⟩ := h
    refine sR (.agg v_39) (w_loadN rfl underlying28 rfl sz28 hs39 hc39) ?_
    refine s_ef (k_call (vs := [(.agg v_38), (.agg v_39)]) cb37 (evC rfl (evC rfl evN)) (h.mono ?_))
    clear h; rintro v F ⟨v_40, v_40_1, rfl, h⟩
    refine sR (.tuple #[(.agg v_40), (.int .i64 v_40_1)]) (r_move rfl rfl) ?_
    refine sR (.agg v_40) (r_extract rfl rfl rfl) ?_
    refine sR (.int .i64 v_40_1) (r_extract rfl rfl rfl) ?_
    refine s_ef (k_alloc zr28 ?_)
    intro b10 hf_b10
    replace h := atE (h b10 hf_b10)
    refine s_ef0 (k_storeN (vs := v_40) rfl rfl sz28 (by decide) ?_)
    obtain ⟨hz1, hz2, c, e, hz3, hz4, hz5, h⟩ := h
    refine ⟨hz1, hz2, c, e, hz3, hz4, hz5, ?_⟩
    replace h := atE h
    refine sR (.int .i64 v_40_1) (r_assign rfl rfl) ?_
    refine HL_nil ?_
    refine cR ?_
    obtain ⟨v_44, hs44, hc44, h⟩ := h
    refine sR (.agg v_44) (w_loadN rfl underlying28 rfl sz28 hs44 hc44) ?_
    obtain ⟨v_45, hs45, hc45, h⟩ := h
    refine sR (.agg v_45) (w_loadN rfl underlying28 rfl sz28 hs45 hc45) ?_
    refine s_ef (k_call (vs := [(.agg v_44), (.agg v_45)]) cb22 (evC rfl (evC rfl evN)) (h.mono ?_))
    clear h; rintro v F ⟨v_46, v_46_1, rfl, h⟩
    refine sR (.tuple #[(.agg v_46), (.int .i64 v_46_1)]) (r_move rfl rfl) ?_
    refine sR (.agg v_46) (r_extract rfl rfl rfl) ?_
    refine sR (.int .i64 v_46_1) (r_extract rfl rfl rfl) ?_
    refine s_ef (k_alloc zr28 ?_)
    intro b12 hf_b12
    replace h := atE (h b12 hf_b12)
    refine s_ef0 (k_storeN (vs := v_46) rfl rfl sz28 (by decide) ?_)
    obtain ⟨hz1, hz2, c, e, hz3, hz4, hz5, h⟩ := h
    refine ⟨hz1, hz2, c, e, hz3, hz4, hz5, ?_⟩
    replace h := atE h
    refine sR (.int .i64 v_46_1) (r_assign rfl rfl) ?_
    refine HL_nil ?_
    refine cR ?_
    obtain ⟨v_50, hs50, hc50, h⟩ := h
    refine sR (.agg v_50) (w_loadN rfl underlying28 rfl sz28 hs50 hc50) ?_
    obtain ⟨v_51, hs51, hc51, h⟩ := h
    refine sR (.agg v_51) (w_loadN rfl underlying28 rfl sz28 hs51 hc51) ?_
    refine s_ef (k_call (vs := [(.agg v_50), (.agg v_51)]) cb38 (evC rfl (evC rfl evN)) (h.mono ?_))
    clear h; rintro v F ⟨v_52, v_52_1, rfl, h⟩
    refine sR (.tuple #[(.agg v_52), (.int .i64 v_52_1)]) (r_move rfl rfl) ?_
    refine sR (.agg v_52) (r_extract rfl rfl rfl) ?_
    refine sR (.int .i64 v_52_1) (r_extract rfl rfl rfl) ?_
    refine s_ef (k_alloc zr28 ?_)
    intro b14 hf_b14
    replace h := atE (h b14 hf_b14)
    refine s_ef0 (k_storeN (vs := v_52) rfl rfl sz28 (by decide) ?_)
    obtain ⟨hz1, hz2, c, e, hz3, hz4, hz5, h⟩ := h
    refine ⟨hz1, hz2, c, e, hz3, hz4, hz5, ?_⟩
    replace h := atE h
    refine sR (.int .i64 v_52_1) (r_assign rfl rfl) ?_
    refine HL_nil ?_
    refine HC_seq ?_
    refine HC_seq ?_
    refine HC_draw0 (by kernel_rfl) (fun hp => ?_)
    obtain ⟨v_55, hs55, hc55, h⟩ := h
    refine gR 0 (.agg v_55) rfl (w_loadN rfl underlying28 rfl sz28 hs55 hc55) hp (fun S0 q0 => ?_)
    replace hp := holdC (i := 0) (q0 _ (w_loadN rfl underlying28 rfl sz28 hs55 hc55)) hp
    obtain ⟨v_56, hs56, hc56, h⟩ := h
    refine gR 1 (.agg v_56) rfl (w_loadN rfl underlying28 rfl sz28 hs56 hc56) hp (fun S1 q1 => ?_)
    replace hp := holdC (i := 1) (q1 _ (w_loadN rfl underlying28 rfl sz28 hs56 hc56)) hp
    refine RG_eff1 (i := 2) (by kernel_rfl) (g_op (Sp' := []) rfl rfl (k_call (vs := [(.agg v_55), (.agg v_56)]) cb39 (evC rfl (evC rfl evN)) (h.mono ?_)))
    clear h; rintro v F ⟨v_57, rfl, h⟩
    refine holdI hold0 (fun hp => ?_)
    refine gU 3 (.bool (!v_57)) rfl (fun _ => r_not rfl rfl) hp ?_
    refine gU 4 (.bool (!v_57)) rfl (fun _ => r_move rfl rfl) hp ?_
    by_cases hc : (!v_57) = true
    ·
     replace h := h.1 hc
     refine RG_known (t := 58) (v := .bool true) (congrArg Value.bool hc) ?_
     refine RG_known (t := 59) (v := .bool true) (congrArg Value.bool hc) ?_
     refine gS 5 rfl hp ?_
     refine gS 6 rfl hp ?_
     refine gS 7 rfl hp ?_
     refine gU 8 (.bool true) rfl (fun _ => r_pick rfl rfl (fun _ => rfl) (fun h => by cases h)) hp ?_
     refine gU 9 (.bool true) rfl (fun _ => r_move rfl rfl) hp ?_
     refine gS 10 rfl hp ?_
     refine gS 11 rfl hp ?_
     refine gS 12 rfl hp ?_
     refine gS 13 rfl hp ?_
     refine gU 14 (.bool true) rfl (fun _ => r_pick rfl rfl (fun _ => rfl) (fun h => by cases h)) hp ?_
     refine gU 15 (.bool true) rfl (fun _ => r_move rfl rfl) hp ?_
     refine gS 16 rfl hp ?_
     refine gS 17 rfl hp ?_
     refine gS 18 rfl hp ?_
     refine gU 19 (.bool true) rfl (fun _ => r_pick rfl rfl (fun _ => rfl) (fun h => by cases h)) hp ?_
     refine gU 20 (.bool true) rfl (fun _ => r_move rfl rfl) hp ?_
     refine gS 21 rfl hp ?_
     refine gS 22 rfl hp ?_
     refine gS 23 rfl hp ?_
     refine gS 24 rfl hp ?_
     refine gS 25 rfl hp ?_
     refine gU 26 (.bool true) rfl (fun _ => r_pick rfl rfl (fun _ => rfl) (fun h => by cases h)) hp ?_
     refine gU 27 (.bool true) rfl (fun _ => r_move rfl rfl) hp ?_
     refine gS 28 rfl hp ?_
     refine gS 29 rfl hp ?_
     refine gS 30 rfl hp ?_
     refine gS 31 rfl hp ?_
     refine gS 32 rfl hp ?_
     refine gS 33 rfl hp ?_
     refine gS 34 rfl hp ?_
     refine gU 35 (.bool true) rfl (fun _ => r_pick rfl rfl (fun _ => rfl) (fun h => by cases h)) hp ?_
     refine RG_done (by kernel_rfl) ?_
     refine HC_condT rfl ?_
     refine cR ?_
     refine sR (.bool false) (r_assign rfl rfl) ?_
     refine HL_nil ?_
     exact HC_ret (show endQ prog f10 R .ret _ _ from ⟨_, res1 rfl (rv_tmp rfl), h⟩)
    ·
     replace hc := eq_false_of_ne_true hc; replace h := h.2 hc
     refine RG_known (t := 58) (v := .bool false) (congrArg Value.bool hc) ?_
     refine RG_known (t := 59) (v := .bool false) (congrArg Value.bool hc) ?_
     refine gU 5 (.int .i64 v_34_1) rfl (fun _ => r_move rfl rfl) hp ?_
     refine gU 6 (.int .i64 v_40_1) rfl (fun _ => r_move rfl rfl) hp ?_
     refine gU 7 (.bool (decide (v_34_1 ≠ v_40_1))) rfl (fun _ => w_neq rfl rfl) hp ?_
     refine gU 8 (.bool (decide (v_34_1 ≠ v_40_1))) rfl (fun _ => r_pick rfl rfl (fun h => by cases h) (fun _ => rfl)) hp ?_
     refine gU 9 (.bool (decide (v_34_1 ≠ v_40_1))) rfl (fun _ => r_move rfl rfl) hp ?_
     by_cases hc : v_34_1 ≠ v_40_1
     ·
      replace h := h.1 hc
      refine RG_known (t := 62) (v := .bool true) (congrArg Value.bool (decide_eq_true hc)) ?_
      refine RG_known (t := 63) (v := .bool true) (congrArg Value.bool (decide_eq_true hc)) ?_
      refine RG_known (t := 64) (v := .bool true) (congrArg Value.bool (decide_eq_true hc)) ?_
      refine gS 10 rfl hp ?_
      refine gS 11 rfl hp ?_
      refine gS 12 rfl hp ?_
      refine gS 13 rfl hp ?_
      refine gU 14 (.bool true) rfl (fun _ => r_pick rfl rfl (fun _ => rfl) (fun h => by cases h)) hp ?_
      refine gU 15 (.bool true) rfl (fun _ => r_move rfl rfl) hp ?_
      refine gS 16 rfl hp ?_
      refine gS 17 rfl hp ?_
      refine gS 18 rfl hp ?_
      refine gU 19 (.bool true) rfl (fun _ => r_pick rfl rfl (fun _ => rfl) (fun h => by cases h)) hp ?_
      refine gU 20 (.bool true) rfl (fun _ => r_move rfl rfl) hp ?_
      refine gS 21 rfl hp ?_
      refine gS 22 rfl hp ?_
      refine gS 23 rfl hp ?_
      refine gS 24 rfl hp ?_
      refine gS 25 rfl hp ?_
      refine gU 26 (.bool true) rfl (fun _ => r_pick rfl rfl (fun _ => rfl) (fun h => by cases h)) hp ?_
      refine gU 27 (.bool true) rfl (fun _ => r_move rfl rfl) hp ?_
      refine gS 28 rfl hp ?_
      refine gS 29 rfl hp ?_
      refine gS 30 rfl hp ?_
      refine gS 31 rfl hp ?_
      refine gS 32 rfl hp ?_
      refine gS 33 rfl hp ?_
      refine gS 34 rfl hp ?_
      refine gU 35 (.bool true) rfl (fun _ => r_pick rfl rfl (fun _ => rfl) (fun h => by cases h)) hp ?_
      refine RG_done (by kernel_rfl) ?_
      refine HC_condT rfl ?_
      refine cR ?_
      refine sR (.bool false) (r_assign rfl rfl) ?_
      refine HL_nil ?_
      exact HC_ret (show endQ prog f10 R .ret _ _ from ⟨_, res1 rfl (rv_tmp rfl), h⟩)
     ·
      replace h := h.2 hc
      refine RG_known (t := 62) (v := .bool false) (congrArg Value.bool (decide_eq_false hc)) ?_
      refine RG_known (t := 63) (v := .bool false) (congrArg Value.bool (decide_eq_false hc)) ?_
      refine RG_known (t := 64) (v := .bool false) (congrArg Value.bool (decide_eq_false hc)) ?_
      obtain ⟨v_65, hs65, hc65, h⟩ := h
      refine gR 10 (.agg v_65) rfl (w_loadN rfl underlying28 rfl sz28 hs65 hc65) hp (fun S10 q10 => ?_)
      replace hp := holdC (i := 10) (q10 _ (w_loadN rfl underlying28 rfl sz28 hs65 hc65)) hp
      obtain ⟨v_66, hs66, hc66, h⟩ := h
      refine gR 11 (.agg v_66) rfl (w_loadN rfl underlying28 rfl sz28 hs66 hc66) hp (fun S11 q11 => ?_)
      replace hp := holdC (i := 11) (q11 _ (w_loadN rfl underlying28 rfl sz28 hs66 hc66)) hp
      refine RG_eff1 (i := 12) (by kernel_rfl) (g_op (Sp' := []) rfl rfl (k_call (vs := [(.agg v_65), (.agg v_66)]) cb39 (evC rfl (evC rfl evN)) (h.mono ?_)))
      clear h; rintro v F ⟨v_67, rfl, h⟩
      refine holdI hold0 (fun hp => ?_)
      refine gU 13 (.bool (!v_67)) rfl (fun _ => r_not rfl rfl) hp ?_
      refine gU 14 (.bool (!v_67)) rfl (fun _ => r_pick rfl rfl (fun h => by cases h) (fun _ => rfl)) hp ?_
      refine gU 15 (.bool (!v_67)) rfl (fun _ => r_move rfl rfl) hp ?_
      by_cases hc : (!v_67) = true
      ·
       replace h := h.1 hc
       refine RG_known (t := 68) (v := .bool true) (congrArg Value.bool hc) ?_
       refine RG_known (t := 69) (v := .bool true) (congrArg Value.bool hc) ?_
       refine RG_known (t := 70) (v := .bool true) (congrArg Value.bool hc) ?_
       refine gS 16 rfl hp ?_
       refine gS 17 rfl hp ?_
       refine gS 18 rfl hp ?_
       refine gU 19 (.bool true) rfl (fun _ => r_pick rfl rfl (fun _ => rfl) (fun h => by cases h)) hp ?_
       refine gU 20 (.bool true) rfl (fun _ => r_move rfl rfl) hp ?_
       refine gS 21 rfl hp ?_
       refine gS 22 rfl hp ?_
       refine gS 23 rfl hp ?_
       refine gS 24 rfl hp ?_
       refine gS 25 rfl hp ?_
       refine gU 26 (.bool true) rfl (fun _ => r_pick rfl rfl (fun _ => rfl) (fun h => by cases h)) hp ?_
       refine gU 27 (.bool true) rfl (fun _ => r_move rfl rfl) hp ?_
       refine gS 28 rfl hp ?_
       refine gS 29 rfl hp ?_
       refine gS 30 rfl hp ?_
       refine gS 31 rfl hp ?_
       refine gS 32 rfl hp ?_
       refine gS 33 rfl hp ?_
       refine gS 34 rfl hp ?_
       refine gU 35 (.bool true) rfl (fun _ => r_pick rfl rfl (fun _ => rfl) (fun h => by cases h)) hp ?_
       refine RG_done (by kernel_rfl) ?_
       refine HC_condT rfl ?_
       refine cR ?_
       refine sR (.bool false) (r_assign rfl rfl) ?_
       refine HL_nil ?_
       exact HC_ret (show endQ prog f10 R .ret _ _ from ⟨_, res1 rfl (rv_tmp rfl), h⟩)
      ·
       replace hc := eq_false_of_ne_true hc; replace h := h.2 hc
       refine RG_known (t := 68) (v := .bool false) (congrArg Value.bool hc) ?_
       refine RG_known (t := 69) (v := .bool false) (congrArg Value.bool hc) ?_
       refine RG_known (t := 70) (v := .bool false) (congrArg Value.bool hc) ?_
       refine gU 16 (.int .i64 v_46_1) rfl (fun _ => r_move rfl rfl) hp ?_
       refine gU 17 (.int .i64 v_52_1) rfl (fun _ => r_move rfl rfl) hp ?_
       refine gU 18 (.bool (decide (v_46_1 ≠ v_52_1))) rfl (fun _ => w_neq rfl rfl) hp ?_
       refine gU 19 (.bool (decide (v_46_1 ≠ v_52_1))) rfl (fun _ => r_pick rfl rfl (fun h => by cases h) (fun _ => rfl)) hp ?_
       refine gU 20 (.bool (decide (v_46_1 ≠ v_52_1))) rfl (fun _ => r_move rfl rfl) hp ?_
       by_cases hc : v_46_1 ≠ v_52_1
       ·
        replace h := h.1 hc
        refine RG_known (t := 73) (v := .bool true) (congrArg Value.bool (decide_eq_true hc)) ?_
        refine RG_known (t := 74) (v := .bool true) (congrArg Value.bool (decide_eq_true hc)) ?_
        refine RG_known (t := 75) (v := .bool true) (congrArg Value.bool (decide_eq_true hc)) ?_
        refine gS 21 rfl hp ?_
        refine gS 22 rfl hp ?_
        refine gS 23 rfl hp ?_
        refine gS 24 rfl hp ?_
        refine gS 25 rfl hp ?_
        refine gU 26 (.bool true) rfl (fun _ => r_pick rfl rfl (fun _ => rfl) (fun h => by cases h)) hp ?_
        refine gU 27 (.bool true) rfl (fun _ => r_move rfl rfl) hp ?_
        refine gS 28 rfl hp ?_
        refine gS 29 rfl hp ?_
        refine gS 30 rfl hp ?_
        refine gS 31 rfl hp ?_
        refine gS 32 rfl hp ?_
        refine gS 33 rfl hp ?_
        refine gS 34 rfl hp ?_
        refine gU 35 (.bool true) rfl (fun _ => r_pick rfl rfl (fun _ => rfl) (fun h => by cases h)) hp ?_
        refine RG_done (by kernel_rfl) ?_
        refine HC_condT rfl ?_
        refine cR ?_
        refine sR (.bool false) (r_assign rfl rfl) ?_
        refine HL_nil ?_
        exact HC_ret (show endQ prog f10 R .ret _ _ from ⟨_, res1 rfl (rv_tmp rfl), h⟩)
       ·
        replace h := h.2 hc
        refine RG_known (t := 73) (v := .bool false) (congrArg Value.bool (decide_eq_false hc)) ?_
        refine RG_known (t := 74) (v := .bool false) (congrArg Value.bool (decide_eq_false hc)) ?_
        refine RG_known (t := 75) (v := .bool false) (congrArg Value.bool (decide_eq_false hc)) ?_
        obtain ⟨v_76, hs76, hc76, h⟩ := h
        refine gR 21 (.agg v_76) rfl (w_loadN rfl underlying28 rfl sz28 hs76 hc76) hp (fun S21 q21 => ?_)
        replace hp := holdC (i := 21) (q21 _ (w_loadN rfl underlying28 rfl sz28 hs76 hc76)) hp
        obtain ⟨v_78, hs78, hc78, h⟩ := h
        refine gR 23 (.agg v_78) rfl (w_loadN rfl underlying28 rfl sz28 hs78 hc78) hp (fun S23 q23 => ?_)
        replace hp := holdC (i := 23) (q23 _ (w_loadN rfl underlying28 rfl sz28 hs78 hc78)) hp
        refine RG_eff1 (i := 22) (by kernel_rfl) (g_op (Sp' := [(23, S23)]) rfl rfl (k_call (vs := [(.agg v_76)]) cb23 (evC rfl evN) (h.mono ?_)))
        clear h; rintro v F ⟨v_77, rfl, h⟩
        obtain ⟨hk_10, h⟩ := h
        refine holdI (holdC (i := 23) (q23 _ (w_loadN rfl underlying28 rfl sz28 hs78 hk_10)) hold0) (fun hp => ?_)
        refine RG_eff1 (i := 24) (by kernel_rfl) (g_op (Sp' := []) rfl rfl (k_call (vs := [(.agg v_78)]) cb40 (evC rfl evN) (h.mono ?_)))
        clear h; rintro v F ⟨v_79, rfl, h⟩
        refine holdI hold0 (fun hp => ?_)
        refine gU 25 (.bool (decide (v_77 ≠ v_79))) rfl (fun _ => w_neq rfl rfl) hp ?_
        refine gU 26 (.bool (decide (v_77 ≠ v_79))) rfl (fun _ => r_pick rfl rfl (fun h => by cases h) (fun _ => rfl)) hp ?_
        refine gU 27 (.bool (decide (v_77 ≠ v_79))) rfl (fun _ => r_move rfl rfl) hp ?_
        by_cases hc : v_77 ≠ v_79
        ·
         replace h := h.1 hc
         refine RG_known (t := 80) (v := .bool true) (congrArg Value.bool (decide_eq_true hc)) ?_
         refine RG_known (t := 81) (v := .bool true) (congrArg Value.bool (decide_eq_true hc)) ?_
         refine RG_known (t := 82) (v := .bool true) (congrArg Value.bool (decide_eq_true hc)) ?_
         refine gS 28 rfl hp ?_
         refine gS 29 rfl hp ?_
         refine gS 30 rfl hp ?_
         refine gS 31 rfl hp ?_
         refine gS 32 rfl hp ?_
         refine gS 33 rfl hp ?_
         refine gS 34 rfl hp ?_
         refine gU 35 (.bool true) rfl (fun _ => r_pick rfl rfl (fun _ => rfl) (fun h => by cases h)) hp ?_
         refine RG_done (by kernel_rfl) ?_
         refine HC_condT rfl ?_
         refine cR ?_
         refine sR (.bool false) (r_assign rfl rfl) ?_
         refine HL_nil ?_
         exact HC_ret (show endQ prog f10 R .ret _ _ from ⟨_, res1 rfl (rv_tmp rfl), h⟩)
        ·
         replace h := h.2 hc
         refine RG_known (t := 80) (v := .bool false) (congrArg Value.bool (decide_eq_false hc)) ?_
         refine RG_known (t := 81) (v := .bool false) (congrArg Value.bool (decide_eq_false hc)) ?_
         refine RG_known (t := 82) (v := .bool false) (congrArg Value.bool (decide_eq_false hc)) ?_
         obtain ⟨v_83, hs83, hc83, h⟩ := h
         refine gR 28 (.agg v_83) rfl (w_loadN rfl underlying28 rfl sz28 hs83 hc83) hp (fun S28 q28 => ?_)
         replace hp := holdC (i := 28) (q28 _ (w_loadN rfl underlying28 rfl sz28 hs83 hc83)) hp
         obtain ⟨v_84, hs84, hc84, h⟩ := h
         refine gR 29 (.agg v_84) rfl (w_loadN rfl underlying28 rfl sz28 hs84 hc84) hp (fun S29 q29 => ?_)
         replace hp := holdC (i := 29) (q29 _ (w_loadN rfl underlying28 rfl sz28 hs84 hc84)) hp
         obtain ⟨v_86, hs86, hc86, h⟩ := h
         refine gR 31 (.agg v_86) rfl (w_loadN rfl underlying28 rfl sz28 hs86 hc86) hp (fun S31 q31 => ?_)
         replace hp := holdC (i := 31) (q31 _ (w_loadN rfl underlying28 rfl sz28 hs86 hc86)) hp
         obtain ⟨v_87, hs87, hc87, h⟩ := h
         refine gR 32 (.agg v_87) rfl (w_loadN rfl underlying28 rfl sz28 hs87 hc87) hp (fun S32 q32 => ?_)
         replace hp := holdC (i := 32) (q32 _ (w_loadN rfl underlying28 rfl sz28 hs87 hc87)) hp
         refine RG_eff1 (i := 30) (by kernel_rfl) (g_op (Sp' := [(32, S32), (31, S31)]) rfl rfl (k_call (vs := [(.agg v_83), (.agg v_84)]) cb24 (evC rfl (evC rfl evN)) (h.mono ?_)))
         clear h; rintro v F ⟨v_85, rfl, h⟩
         obtain ⟨hk_11, hk_12, h⟩ := h
         refine holdI (holdC (i := 32) (q32 _ (w_loadN rfl underlying28 rfl sz28 hs87 hk_11)) (holdC (i := 31) (q31 _ (w_loadN rfl underlying28 rfl sz28 hs86 hk_12)) hold0)) (fun hp => ?_)
         refine RG_eff1 (i := 33) (by kernel_rfl) (g_op (Sp' := []) rfl rfl (k_call (vs := [(.agg v_86), (.agg v_87)]) cb39 (evC rfl (evC rfl evN)) (h.mono ?_)))
         clear h; rintro v F ⟨v_88, rfl, h⟩
         refine holdI hold0 (fun hp => ?_)
         refine gU 34 (.bool (!(v_85 == v_88))) rfl (fun _ => r_neqB rfl rfl rfl underlying4) hp ?_
         refine gU 35 (.bool (!(v_85 == v_88))) rfl (fun _ => r_pick rfl rfl (fun h => by cases h) (fun _ => rfl)) hp ?_
         refine RG_done (by kernel_rfl) ?_
         refine HC_cond (t := (!(v_85 == v_88))) rfl (fun hc => ?_) (fun hc => ?_)
         ·
          replace h := h.1 hc
          clear hc
          refine cR ?_
          refine sR (.bool false) (r_assign rfl rfl) ?_
          refine HL_nil ?_
          exact HC_ret (show endQ prog f10 R .ret _ _ from ⟨_, res1 rfl (rv_tmp rfl), h⟩)
         ·
          replace h := h.2 hc
          clear hc
          refine HC_skip ?_
          refine cR ?_
          obtain ⟨v_92, hs92, hc92, h⟩ := h
          refine sR (.agg v_92) (w_loadN rfl underlying28 rfl sz28 hs92 hc92) ?_
          obtain ⟨v_93, hs93, hc93, h⟩ := h
          refine sR (.agg v_93) (w_loadN rfl underlying28 rfl sz28 hs93 hc93) ?_
          refine s_ef (k_call (vs := [(.agg v_92), (.agg v_93)]) cb26 (evC rfl (evC rfl evN)) (h.mono ?_))
          clear h; rintro v F ⟨v_94, v_94_1, rfl, h⟩
          refine sR (.tuple #[(.agg v_94), (.int .i64 v_94_1)]) (r_move rfl rfl) ?_
          refine sR (.agg v_94) (r_extract rfl rfl rfl) ?_
          refine sR (.int .i64 v_94_1) (r_extract rfl rfl rfl) ?_
          refine s_ef0 (k_storeN (vs := v_94) rfl rfl sz28 (by decide) ?_)
          obtain ⟨hz1, hz2, c, e, hz3, hz4, hz5, h⟩ := h
          refine ⟨hz1, hz2, c, e, hz3, hz4, hz5, ?_⟩
          replace h := atE h
          refine sR (.int .i64 v_94_1) (r_assign rfl rfl) ?_
          refine HL_nil ?_
          refine cR ?_
          obtain ⟨v_98, hs98, hc98, h⟩ := h
          refine sR (.agg v_98) (w_loadN rfl underlying28 rfl sz28 hs98 hc98) ?_
          obtain ⟨v_99, hs99, hc99, h⟩ := h
          refine sR (.agg v_99) (w_loadN rfl underlying28 rfl sz28 hs99 hc99) ?_
          refine s_ef (k_call (vs := [(.agg v_98), (.agg v_99)]) cb41 (evC rfl (evC rfl evN)) (h.mono ?_))
          clear h; rintro v F ⟨v_100, v_100_1, rfl, h⟩
          refine sR (.tuple #[(.agg v_100), (.int .i64 v_100_1)]) (r_move rfl rfl) ?_
          refine sR (.agg v_100) (r_extract rfl rfl rfl) ?_
          refine sR (.int .i64 v_100_1) (r_extract rfl rfl rfl) ?_
          refine s_ef0 (k_storeN (vs := v_100) rfl rfl sz28 (by decide) ?_)
          obtain ⟨hz1, hz2, c, e, hz3, hz4, hz5, h⟩ := h
          refine ⟨hz1, hz2, c, e, hz3, hz4, hz5, ?_⟩
          replace h := atE h
          refine sR (.int .i64 v_100_1) (r_assign rfl rfl) ?_
          refine HL_nil ?_
          refine cR ?_
          obtain ⟨v_104, hs104, hc104, h⟩ := h
          refine sR (.agg v_104) (w_loadN rfl underlying28 rfl sz28 hs104 hc104) ?_
          obtain ⟨v_105, hs105, hc105, h⟩ := h
          refine sR (.agg v_105) (w_loadN rfl underlying28 rfl sz28 hs105 hc105) ?_
          obtain ⟨v_106, hs106, hc106, h⟩ := h
          refine sR (.agg v_106) (w_loadN rfl underlying28 rfl sz28 hs106 hc106) ?_
          refine s_ef (k_call (vs := [(.agg v_104), (.agg v_105), (.agg v_106)]) cb27 (evC rfl (evC rfl (evC rfl evN))) (h.mono ?_))
          clear h; rintro v F ⟨v_107, v_107_1, rfl, h⟩
          refine sR (.tuple #[(.agg v_107), (.int .i64 v_107_1)]) (r_move rfl rfl) ?_
          refine sR (.agg v_107) (r_extract rfl rfl rfl) ?_
          refine sR (.int .i64 v_107_1) (r_extract rfl rfl rfl) ?_
          refine s_ef0 (k_storeN (vs := v_107) rfl rfl sz28 (by decide) ?_)
          obtain ⟨hz1, hz2, c, e, hz3, hz4, hz5, h⟩ := h
          refine ⟨hz1, hz2, c, e, hz3, hz4, hz5, ?_⟩
          replace h := atE h
          refine sR (.int .i64 v_107_1) (r_assign rfl rfl) ?_
          refine HL_nil ?_
          refine cR ?_
          obtain ⟨v_111, hs111, hc111, h⟩ := h
          refine sR (.agg v_111) (w_loadN rfl underlying28 rfl sz28 hs111 hc111) ?_
          obtain ⟨v_112, hs112, hc112, h⟩ := h
          refine sR (.agg v_112) (w_loadN rfl underlying28 rfl sz28 hs112 hc112) ?_
          obtain ⟨v_113, hs113, hc113, h⟩ := h
          refine sR (.agg v_113) (w_loadN rfl underlying28 rfl sz28 hs113 hc113) ?_
          refine s_ef (k_call (vs := [(.agg v_111), (.agg v_112), (.agg v_113)]) cb42 (evC rfl (evC rfl (evC rfl evN))) (h.mono ?_))
          clear h; rintro v F ⟨v_114, v_114_1, rfl, h⟩
          refine sR (.tuple #[(.agg v_114), (.int .i64 v_114_1)]) (r_move rfl rfl) ?_
          refine sR (.agg v_114) (r_extract rfl rfl rfl) ?_
          refine sR (.int .i64 v_114_1) (r_extract rfl rfl rfl) ?_
          refine s_ef0 (k_storeN (vs := v_114) rfl rfl sz28 (by decide) ?_)
          obtain ⟨hz1, hz2, c, e, hz3, hz4, hz5, h⟩ := h
          refine ⟨hz1, hz2, c, e, hz3, hz4, hz5, ?_⟩
          replace h := atE h
          refine sR (.int .i64 v_114_1) (r_assign rfl rfl) ?_
          refine HL_nil ?_
          refine HC_seq ?_
          refine cR ?_
          obtain ⟨v_117, hs117, hc117, h⟩ := h
          refine sR (.agg v_117) (w_loadN rfl underlying28 rfl sz28 hs117 hc117) ?_
          obtain ⟨v_118, hs118, hc118, h⟩ := h
          refine sR (.agg v_118) (w_loadN rfl underlying28 rfl sz28 hs118 hc118) ?_
          refine s_ef (k_call (vs := [(.agg v_117), (.agg v_118)]) cb39 (evC rfl (evC rfl evN)) (h.mono ?_))
          clear h; rintro v F ⟨v_119, rfl, h⟩
          refine sR (.bool (!v_119)) (r_not rfl rfl) ?_
          refine sR (.bool (!v_119)) (r_move rfl rfl) ?_
          by_cases hc : (!v_119) = true
          ·
           replace h := h.1 hc
           refine kN 120 hc ?_
           refine kN 121 hc ?_
           refine s_skip ?_
           refine s_skip ?_
           refine s_skip ?_
           refine sR (.bool true) (r_pick rfl rfl (fun _ => rfl) (fun h => by cases h)) ?_
           refine sR (.bool true) (r_move rfl rfl) ?_
           refine s_skip ?_
           refine s_skip ?_
           refine s_skip ?_
           refine s_skip ?_
           refine sR (.bool true) (r_pick rfl rfl (fun _ => rfl) (fun h => by cases h)) ?_
           refine sR (.bool true) (r_move rfl rfl) ?_
           refine s_skip ?_
           refine s_skip ?_
           refine s_skip ?_
           refine sR (.bool true) (r_pick rfl rfl (fun _ => rfl) (fun h => by cases h)) ?_
           refine HL_nil ?_
           refine HC_condT rfl ?_
           refine cR ?_
           refine sR (.bool false) (r_assign rfl rfl) ?_
           refine HL_nil ?_
           exact HC_ret (show endQ prog f10 R .ret _ _ from ⟨_, res1 rfl (rv_tmp rfl), h⟩)
          ·
           replace hc := eq_false_of_ne_true hc; replace h := h.2 hc
           refine kN 120 hc ?_
           refine kN 121 hc ?_
           refine sR (.int .i64 v_94_1) (r_move rfl rfl) ?_
           refine sR (.int .i64 v_100_1) (r_move rfl rfl) ?_
           refine sR (.bool (decide (v_94_1 ≠ v_100_1))) (w_neq rfl rfl) ?_
           refine sR (.bool (decide (v_94_1 ≠ v_100_1))) (r_pick rfl rfl (fun h => by cases h) (fun _ => rfl)) ?_
           refine sR (.bool (decide (v_94_1 ≠ v_100_1))) (r_move rfl rfl) ?_
           by_cases hc : v_94_1 ≠ v_100_1
           ·
            replace h := h.1 hc
            refine kN 124 (decide_eq_true hc) ?_
            refine kN 125 (decide_eq_true hc) ?_
            refine kN 126 (decide_eq_true hc) ?_
            refine s_skip ?_
            refine s_skip ?_
            refine s_skip ?_
            refine s_skip ?_
            refine sR (.bool true) (r_pick rfl rfl (fun _ => rfl) (fun h => by cases h)) ?_
            refine sR (.bool true) (r_move rfl rfl) ?_
            refine s_skip ?_
            refine s_skip ?_
            refine s_skip ?_
            refine sR (.bool true) (r_pick rfl rfl (fun _ => rfl) (fun h => by cases h)) ?_
            refine HL_nil ?_
            refine HC_condT rfl ?_
            refine cR ?_
            refine sR (.bool false) (r_assign rfl rfl) ?_
            refine HL_nil ?_
            exact HC_ret (show endQ prog f10 R .ret _ _ from ⟨_, res1 rfl (rv_tmp rfl), h⟩)
           ·
            replace h := h.2 hc
            refine kN 124 (decide_eq_false hc) ?_
            refine kN 125 (decide_eq_false hc) ?_
            refine kN 126 (decide_eq_false hc) ?_
            obtain ⟨v_127, hs127, hc127, h⟩ := h
            refine sR (.agg v_127) (w_loadN rfl underlying28 rfl sz28 hs127 hc127) ?_
            obtain ⟨v_128, hs128, hc128, h⟩ := h
            refine sR (.agg v_128) (w_loadN rfl underlying28 rfl sz28 hs128 hc128) ?_
            refine s_ef (k_call (vs := [(.agg v_127), (.agg v_128)]) cb39 (evC rfl (evC rfl evN)) (h.mono ?_))
            clear h; rintro v F ⟨v_129, rfl, h⟩
            refine sR (.bool (!v_129)) (r_not rfl rfl) ?_
            refine sR (.bool (!v_129)) (r_pick rfl rfl (fun h => by cases h) (fun _ => rfl)) ?_
            refine sR (.bool (!v_129)) (r_move rfl rfl) ?_
            by_cases hc : (!v_129) = true
            ·
             replace h := h.1 hc
             refine kN 130 hc ?_
             refine kN 131 hc ?_
             refine kN 132 hc ?_
             refine s_skip ?_
             refine s_skip ?_
             refine s_skip ?_
             refine sR (.bool true) (r_pick rfl rfl (fun _ => rfl) (fun h => by cases h)) ?_
             refine HL_nil ?_
             refine HC_condT rfl ?_
             refine cR ?_
             refine sR (.bool false) (r_assign rfl rfl) ?_
             refine HL_nil ?_
             exact HC_ret (show endQ prog f10 R .ret _ _ from ⟨_, res1 rfl (rv_tmp rfl), h⟩)
            ·
             replace hc := eq_false_of_ne_true hc; replace h := h.2 hc
             refine kN 130 hc ?_
             refine kN 131 hc ?_
             refine kN 132 hc ?_
             refine sR (.int .i64 v_107_1) (r_move rfl rfl) ?_
             refine sR (.int .i64 v_114_1) (r_move rfl rfl) ?_
             refine sR (.bool (decide (v_107_1 ≠ v_114_1))) (w_neq rfl rfl) ?_
             refine sR (.bool (decide (v_107_1 ≠ v_114_1))) (r_pick rfl rfl (fun h => by cases h) (fun _ => rfl)) ?_
             refine HL_nil ?_
             refine HC_cond (t := (decide (v_107_1 ≠ v_114_1))) rfl (fun hc => ?_) (fun hc => ?_)
             ·
              replace h := h.1 (of_decide_eq_true hc)
              clear hc
              refine cR ?_
              refine sR (.bool false) (r_assign rfl rfl) ?_
              refine HL_nil ?_
              exact HC_ret (show endQ prog f10 R .ret _ _ from ⟨_, res1 rfl (rv_tmp rfl), h⟩)
             ·
              replace h := h.2 (of_decide_eq_false hc)
              clear hc
              refine HC_skip ?_
              refine cR ?_
              obtain ⟨v_138, hs138, hc138, h⟩ := h
              refine sR (.agg v_138) (w_loadN rfl underlying28 rfl sz28 hs138 hc138) ?_
              refine s_ef (k_call (vs := [(.agg v_138)]) cb25 (evC rfl evN) (h.mono ?_))
              clear h; rintro v F ⟨v_139, v_139_1, rfl, h⟩
              refine sR (.tuple #[(.agg v_139), (.int .i64 v_139_1)]) (r_move rfl rfl) ?_
              refine sR (.agg v_139) (r_extract rfl rfl rfl) ?_
              refine sR (.int .i64 v_139_1) (r_extract rfl rfl rfl) ?_
              refine s_ef0 (k_storeN (vs := v_139) rfl rfl sz28 (by decide) ?_)
              obtain ⟨hz1, hz2, c, e, hz3, hz4, hz5, h⟩ := h
              refine ⟨hz1, hz2, c, e, hz3, hz4, hz5, ?_⟩
              replace h := atE h
              refine sR (.int .i64 v_139_1) (r_assign rfl rfl) ?_
              refine HL_nil ?_
              refine cR ?_
              obtain ⟨v_143, hs143, hc143, h⟩ := h
              refine sR (.agg v_143) (w_loadN rfl underlying28 rfl sz28 hs143 hc143) ?_
              refine s_ef (k_call (vs := [(.agg v_143)]) cb43 (evC rfl evN) (h.mono ?_))
              clear h; rintro v F ⟨v_144, v_144_1, rfl, h⟩
              refine sR (.tuple #[(.agg v_144), (.int .i64 v_144_1)]) (r_move rfl rfl) ?_
              refine sR (.agg v_144) (r_extract rfl rfl rfl) ?_
              refine sR (.int .i64 v_144_1) (r_extract rfl rfl rfl) ?_
              refine s_ef0 (k_storeN (vs := v_144) rfl rfl sz28 (by decide) ?_)
              obtain ⟨hz1, hz2, c, e, hz3, hz4, hz5, h⟩ := h
              refine ⟨hz1, hz2, c, e, hz3, hz4, hz5, ?_⟩
              replace h := atE h
              refine sR (.int .i64 v_144_1) (r_assign rfl rfl) ?_
              refine HL_nil ?_
              refine HC_seq ?_
              refine HC_draw0 (by kernel_rfl) (fun hp => ?_)
              obtain ⟨v_147, hs147, hc147, h⟩ := h
              refine gR 0 (.agg v_147) rfl (w_loadN rfl underlying28 rfl sz28 hs147 hc147) hp (fun S0 q0 => ?_)
              replace hp := holdC (i := 0) (q0 _ (w_loadN rfl underlying28 rfl sz28 hs147 hc147)) hp
              obtain ⟨v_148, hs148, hc148, h⟩ := h
              refine gR 1 (.agg v_148) rfl (w_loadN rfl underlying28 rfl sz28 hs148 hc148) hp (fun S1 q1 => ?_)
              replace hp := holdC (i := 1) (q1 _ (w_loadN rfl underlying28 rfl sz28 hs148 hc148)) hp
              refine RG_eff1 (i := 2) (by kernel_rfl) (g_op (Sp' := []) rfl rfl (k_call (vs := [(.agg v_147), (.agg v_148)]) cb39 (evC rfl (evC rfl evN)) (h.mono ?_)))
              clear h; rintro v F ⟨v_149, rfl, h⟩
              refine holdI hold0 (fun hp => ?_)
              refine gU 3 (.bool v_149) rfl (fun _ => r_move rfl rfl) hp ?_
              by_cases hc : v_149 = true
              ·
               replace h := h.1 hc
               refine RG_known (t := 149) (v := .bool true) (congrArg Value.bool hc) ?_
               refine RG_known (t := 150) (v := .bool true) (congrArg Value.bool hc) ?_
               refine gU 4 (.int .i64 v_139_1) rfl (fun _ => r_move rfl rfl) hp ?_
               refine gU 5 (.int .i64 v_144_1) rfl (fun _ => r_move rfl rfl) hp ?_
               refine gU 6 (.bool (decide (v_139_1 = v_144_1))) rfl (fun _ => w_eql rfl rfl) hp ?_
               refine gU 7 (.bool (decide (v_139_1 = v_144_1))) rfl (fun _ => r_pick rfl rfl (fun _ => rfl) (fun h => by cases h)) hp ?_
               refine gU 8 (.bool (decide (v_139_1 = v_144_1))) rfl (fun _ => r_move rfl rfl) hp ?_
               by_cases hc : v_139_1 = v_144_1
               ·
                replace h := h.1 hc
                refine RG_known (t := 153) (v := .bool true) (congrArg Value.bool (decide_eq_true hc)) ?_
                refine RG_known (t := 154) (v := .bool true) (congrArg Value.bool (decide_eq_true hc)) ?_
                refine RG_known (t := 155) (v := .bool true) (congrArg Value.bool (decide_eq_true hc)) ?_
                obtain ⟨v_156, hs156, hc156, h⟩ := h
                refine gR 9 (.agg v_156) rfl (w_loadN rfl underlying28 rfl sz28 hs156 hc156) hp (fun S9 q9 => ?_)
                replace hp := holdC (i := 9) (q9 _ (w_loadN rfl underlying28 rfl sz28 hs156 hc156)) hp
                obtain ⟨v_157, hs157, hc157, h⟩ := h
                refine gR 10 (.agg v_157) rfl (w_loadN rfl underlying28 rfl sz28 hs157 hc157) hp (fun S10 q10 => ?_)
                replace hp := holdC (i := 10) (q10 _ (w_loadN rfl underlying28 rfl sz28 hs157 hc157)) hp
                obtain ⟨v_159, hs159, hc159, h⟩ := h
                refine gR 12 (.agg v_159) rfl (w_loadN rfl underlying28 rfl sz28 hs159 hc159) hp (fun S12 q12 => ?_)
                replace hp := holdC (i := 12) (q12 _ (w_loadN rfl underlying28 rfl sz28 hs159 hc159)) hp
                obtain ⟨v_160, hs160, hc160, h⟩ := h
                refine gR 13 (.agg v_160) rfl (w_loadN rfl underlying28 rfl sz28 hs160 hc160) hp (fun S13 q13 => ?_)
                replace hp := holdC (i := 13) (q13 _ (w_loadN rfl underlying28 rfl sz28 hs160 hc160)) hp
                refine RG_eff1 (i := 11) (by kernel_rfl) (g_op (Sp' := [(13, S13), (12, S12)]) rfl rfl (k_call (vs := [(.agg v_156), (.agg v_157)]) cb44 (evC rfl (evC rfl evN)) (h.mono ?_)))
                clear h; rintro v F ⟨v_158, rfl, h⟩
                obtain ⟨hk_17, hk_18, h⟩ := h
                refine holdI (holdC (i := 13) (q13 _ (w_loadN rfl underlying28 rfl sz28 hs160 hk_17)) (holdC (i := 12) (q12 _ (w_loadN rfl underlying28 rfl sz28 hs159 hk_18)) hold0)) (fun hp => ?_)
                refine RG_eff1 (i := 14) (by kernel_rfl) (g_op (Sp' := []) rfl rfl (k_call (vs := [(.agg v_159), (.agg v_160)]) cb45 (evC rfl (evC rfl evN)) (h.mono ?_)))
                clear h; rintro v F ⟨v_161, rfl, h⟩
                refine holdI hold0 (fun hp => ?_)
                refine gU 15 (.bool (v_158 == v_161)) rfl (fun _ => r_eqlB rfl rfl rfl underlying4) hp ?_
                refine gU 16 (.bool (v_158 == v_161)) rfl (fun _ => r_pick rfl rfl (fun _ => rfl) (fun h => by cases h)) hp ?_
                refine gU 17 (.bool (v_158 == v_161)) rfl (fun _ => r_move rfl rfl) hp ?_
                by_cases hc : (v_158 == v_161) = true
                ·
                 replace h := h.1 hc
                 refine RG_known (t := 162) (v := .bool true) (congrArg Value.bool hc) ?_
                 refine RG_known (t := 163) (v := .bool true) (congrArg Value.bool hc) ?_
                 refine RG_known (t := 164) (v := .bool true) (congrArg Value.bool hc) ?_
                 obtain ⟨v_165, hs165, hc165, h⟩ := h
                 refine gR 18 (.agg v_165) rfl (w_loadN rfl underlying28 rfl sz28 hs165 hc165) hp (fun S18 q18 => ?_)
                 replace hp := holdC (i := 18) (q18 _ (w_loadN rfl underlying28 rfl sz28 hs165 hc165)) hp
                 obtain ⟨v_166, hs166, hc166, h⟩ := h
                 refine gR 19 (.agg v_166) rfl (w_loadN rfl underlying28 rfl sz28 hs166 hc166) hp (fun S19 q19 => ?_)
                 replace hp := holdC (i := 19) (q19 _ (w_loadN rfl underlying28 rfl sz28 hs166 hc166)) hp
                 obtain ⟨v_168, hs168, hc168, h⟩ := h
                 refine gR 21 (.agg v_168) rfl (w_loadN rfl underlying28 rfl sz28 hs168 hc168) hp (fun S21 q21 => ?_)
                 replace hp := holdC (i := 21) (q21 _ (w_loadN rfl underlying28 rfl sz28 hs168 hc168)) hp
                 obtain ⟨v_169, hs169, hc169, h⟩ := h
                 refine gR 22 (.agg v_169) rfl (w_loadN rfl underlying28 rfl sz28 hs169 hc169) hp (fun S22 q22 => ?_)
                 replace hp := holdC (i := 22) (q22 _ (w_loadN rfl underlying28 rfl sz28 hs169 hc169)) hp
                 refine RG_eff1 (i := 20) (by kernel_rfl) (g_op (Sp' := [(22, S22), (21, S21)]) rfl rfl (k_call (vs := [(.agg v_165), (.agg v_166)]) cb46 (evC rfl (evC rfl evN)) (h.mono ?_)))
                 clear h; rintro v F ⟨v_167, rfl, h⟩
                 obtain ⟨hk_19, hk_20, h⟩ := h
                 refine holdI (holdC (i := 22) (q22 _ (w_loadN rfl underlying28 rfl sz28 hs169 hk_19)) (holdC (i := 21) (q21 _ (w_loadN rfl underlying28 rfl sz28 hs168 hk_20)) hold0)) (fun hp => ?_)
                 refine RG_eff1 (i := 23) (by kernel_rfl) (g_op (Sp' := []) rfl rfl (k_call (vs := [(.agg v_168), (.agg v_169)]) cb47 (evC rfl (evC rfl evN)) (h.mono ?_)))
                 clear h; rintro v F ⟨v_170, rfl, h⟩
                 refine holdI hold0 (fun hp => ?_)
                 refine gU 24 (.bool (v_167 == v_170)) rfl (fun _ => r_eqlB rfl rfl rfl underlying4) hp ?_
                 refine gU 25 (.bool (v_167 == v_170)) rfl (fun _ => r_pick rfl rfl (fun _ => rfl) (fun h => by cases h)) hp ?_
                 refine gU 26 (.bool (v_167 == v_170)) rfl (fun _ => r_move rfl rfl) hp ?_
                 by_cases hc : (v_167 == v_170) = true
                 ·
                  replace h := h.1 hc
                  refine RG_known (t := 171) (v := .bool true) (congrArg Value.bool hc) ?_
                  refine RG_known (t := 172) (v := .bool true) (congrArg Value.bool hc) ?_
                  refine RG_known (t := 173) (v := .bool true) (congrArg Value.bool hc) ?_
                  refine gU 27 (.bool v_16) rfl (fun _ => r_move rfl rfl) hp ?_
                  refine gU 28 (.bool v_16) rfl (fun _ => r_pick rfl rfl (fun _ => rfl) (fun h => by cases h)) hp ?_
                  refine gU 29 (.bool v_16) rfl (fun _ => r_assign rfl rfl) hp ?_
                  refine RG_done (by kernel_rfl) ?_
                  exact HC_ret (show endQ prog f10 R .ret _ _ from ⟨_, res1 rfl (rv_tmp rfl), h⟩)
                 ·
                  replace hc := eq_false_of_ne_true hc; replace h := h.2 hc
                  refine RG_known (t := 171) (v := .bool false) (congrArg Value.bool hc) ?_
                  refine RG_known (t := 172) (v := .bool false) (congrArg Value.bool hc) ?_
                  refine RG_known (t := 173) (v := .bool false) (congrArg Value.bool hc) ?_
                  refine gS 27 rfl hp ?_
                  refine gU 28 (.bool false) rfl (fun _ => r_pick rfl rfl (fun h => by cases h) (fun _ => rfl)) hp ?_
                  refine gU 29 (.bool false) rfl (fun _ => r_assign rfl rfl) hp ?_
                  refine RG_done (by kernel_rfl) ?_
                  exact HC_ret (show endQ prog f10 R .ret _ _ from ⟨_, res1 rfl (rv_tmp rfl), h⟩)
                ·
                 replace hc := eq_false_of_ne_true hc; replace h := h.2 hc
                 refine RG_known (t := 162) (v := .bool false) (congrArg Value.bool hc) ?_
                 refine RG_known (t := 163) (v := .bool false) (congrArg Value.bool hc) ?_
                 refine RG_known (t := 164) (v := .bool false) (congrArg Value.bool hc) ?_
                 refine gS 18 rfl hp ?_
                 refine gS 19 rfl hp ?_
                 refine gS 20 rfl hp ?_
                 refine gS 21 rfl hp ?_
                 refine gS 22 rfl hp ?_
                 refine gS 23 rfl hp ?_
                 refine gS 24 rfl hp ?_
                 refine gU 25 (.bool false) rfl (fun _ => r_pick rfl rfl (fun h => by cases h) (fun _ => rfl)) hp ?_
                 refine gU 26 (.bool false) rfl (fun _ => r_move rfl rfl) hp ?_
                 refine gS 27 rfl hp ?_
                 refine gU 28 (.bool false) rfl (fun _ => r_pick rfl rfl (fun h => by cases h) (fun _ => rfl)) hp ?_
                 refine gU 29 (.bool false) rfl (fun _ => r_assign rfl rfl) hp ?_
                 refine RG_done (by kernel_rfl) ?_
                 exact HC_ret (show endQ prog f10 R .ret _ _ from ⟨_, res1 rfl (rv_tmp rfl), h⟩)
               ·
                replace h := h.2 hc
                refine RG_known (t := 153) (v := .bool false) (congrArg Value.bool (decide_eq_false hc)) ?_
                refine RG_known (t := 154) (v := .bool false) (congrArg Value.bool (decide_eq_false hc)) ?_
                refine RG_known (t := 155) (v := .bool false) (congrArg Value.bool (decide_eq_false hc)) ?_
                refine gS 9 rfl hp ?_
                refine gS 10 rfl hp ?_
                refine gS 11 rfl hp ?_
                refine gS 12 rfl hp ?_
                refine gS 13 rfl hp ?_
                refine gS 14 rfl hp ?_
                refine gS 15 rfl hp ?_
                refine gU 16 (.bool false) rfl (fun _ => r_pick rfl rfl (fun h => by cases h) (fun _ => rfl)) hp ?_
                refine gU 17 (.bool false) rfl (fun _ => r_move rfl rfl) hp ?_
                refine gS 18 rfl hp ?_
                refine gS 19 rfl hp ?_
                refine gS 20 rfl hp ?_
                refine gS 21 rfl hp ?_
                refine gS 22 rfl hp ?_
                refine gS 23 rfl hp ?_
                refine gS 24 rfl hp ?_
                refine gU 25 (.bool false) rfl (fun _ => r_pick rfl rfl (fun h => by cases h) (fun _ => rfl)) hp ?_
                refine gU 26 (.bool false) rfl (fun _ => r_move rfl rfl) hp ?_
                refine gS 27 rfl hp ?_
                refine gU 28 (.bool false) rfl (fun _ => r_pick rfl rfl (fun h => by cases h) (fun _ => rfl)) hp ?_
                refine gU 29 (.bool false) rfl (fun _ => r_assign rfl rfl) hp ?_
                refine RG_done (by kernel_rfl) ?_
                exact HC_ret (show endQ prog f10 R .ret _ _ from ⟨_, res1 rfl (rv_tmp rfl), h⟩)
              ·
               replace hc := eq_false_of_ne_true hc; replace h := h.2 hc
               refine RG_known (t := 149) (v := .bool false) (congrArg Value.bool hc) ?_
               refine RG_known (t := 150) (v := .bool false) (congrArg Value.bool hc) ?_
               refine gS 4 rfl hp ?_
               refine gS 5 rfl hp ?_
               refine gS 6 rfl hp ?_
               refine gU 7 (.bool false) rfl (fun _ => r_pick rfl rfl (fun h => by cases h) (fun _ => rfl)) hp ?_
               refine gU 8 (.bool false) rfl (fun _ => r_move rfl rfl) hp ?_
               refine gS 9 rfl hp ?_
               refine gS 10 rfl hp ?_
               refine gS 11 rfl hp ?_
               refine gS 12 rfl hp ?_
               refine gS 13 rfl hp ?_
               refine gS 14 rfl hp ?_
               refine gS 15 rfl hp ?_
               refine gU 16 (.bool false) rfl (fun _ => r_pick rfl rfl (fun h => by cases h) (fun _ => rfl)) hp ?_
               refine gU 17 (.bool false) rfl (fun _ => r_move rfl rfl) hp ?_
               refine gS 18 rfl hp ?_
               refine gS 19 rfl hp ?_
               refine gS 20 rfl hp ?_
               refine gS 21 rfl hp ?_
               refine gS 22 rfl hp ?_
               refine gS 23 rfl hp ?_
               refine gS 24 rfl hp ?_
               refine gU 25 (.bool false) rfl (fun _ => r_pick rfl rfl (fun h => by cases h) (fun _ => rfl)) hp ?_
               refine gU 26 (.bool false) rfl (fun _ => r_move rfl rfl) hp ?_
               refine gS 27 rfl hp ?_
               refine gU 28 (.bool false) rfl (fun _ => r_pick rfl rfl (fun h => by cases h) (fun _ => rfl)) hp ?_
               refine gU 29 (.bool false) rfl (fun _ => r_assign rfl rfl) hp ?_
               refine RG_done (by kernel_rfl) ?_
               exact HC_ret (show endQ prog f10 R .ret _ _ from ⟨_, res1 rfl (rv_tmp rfl), h⟩)

end Go.Proofs.Ytafojmoeaneedaa

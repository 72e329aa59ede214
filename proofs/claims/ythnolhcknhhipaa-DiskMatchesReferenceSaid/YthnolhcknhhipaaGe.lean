/-
  What functions of the program do, in a clean form, each with the proof that its code does so. Printed by a program.
-/
import Derived.Test.YthnolhcknhhipaaGf
namespace Go.Proofs.Ythnolhcknhhipaa
open Go Go.Proofs.Try
set_option maxRecDepth 10000
/- 6 koine.koinelaw34.DiskTorn -/
def b6j2 (v_22 : Option Addr) (v_26 : Sl) (v_30 : Option Addr) (v_32 : Option Addr) (R : Value → PH → Prop) (F : PH) : Prop :=
  Spec prog 17 #[(Value.pointer v_22)] F fun v F => ∃ v_155 : Int, v = (Value.int .i64 v_155) ∧
  ∀ b157, F b157 = none → atF (F.set b157 (.cells #[(Value.int .i64 (64 : Int)), (Value.int .i64 (64 : Int)), (Value.int .i64 (64 : Int)), (Value.int .i64 (64 : Int)), (Value.int .i64 (64 : Int)), (Value.int .i64 (64 : Int)), (Value.int .i64 (64 : Int)), (Value.int .i64 (64 : Int)), (Value.int .i64 (64 : Int)), (Value.int .i64 (1099511627776 : Int))] 3)) fun F =>
  Spec prog 19 #[(Value.pointer v_30), (Sl.v (Sl.mk (some (Addr.mk b157 0 none)) 10 10))] F fun v F => v = Value.tuple #[] ∧
  Spec prog 20 #[(Value.pointer v_30)] F fun v F => v = Value.tuple #[] ∧
  ∀ b162, F b162 = none → atF (F.set b162 (.cells #[(Value.int .i64 (-3 : Int))] 3)) fun F =>
  Spec prog 19 #[(Value.pointer v_32), (Sl.v (Sl.mk (some (Addr.mk b162 0 none)) 1 1))] F fun v F => v = Value.tuple #[] ∧
  Spec prog 20 #[(Value.pointer v_32)] F fun v F => v = Value.tuple #[] ∧
  Spec prog 12 #[(Value.pointer v_30)] F fun v F => ∃ v_167 : Sl, v = (Sl.v v_167) ∧
  Spec prog 12 #[(Value.pointer v_22)] F fun v F => ∃ v_169 : Sl, v = (Sl.v v_169) ∧
  Spec prog 18 #[(Sl.v v_167), (Sl.v v_169)] F fun v F => ∃ v_170 : Bool, v = (Value.bool v_170) ∧
  ((v_170 = true →
    Spec prog 12 #[(Value.pointer v_32)] F fun v F => ∃ v_173 : Sl, v = (Sl.v v_173) ∧
    Spec prog 18 #[(Sl.v v_173), (Sl.v v_26)] F fun v F => ∃ v_175 : Bool, v = (Value.bool v_175) ∧
    R (Value.bool v_175) F) ∧
  (v_170 = false →
    R (Value.bool false) F))
abbrev b6J2 (v_22 : Option Addr) (v_26 : Sl) (v_30 : Option Addr) (v_32 : Option Addr) (R : Value → PH → Prop) (E : En) (F : PH) : Prop := E 8 = (Value.pointer v_22) ∧ E 9 = (Sl.v v_26) ∧ E 11 = (Value.pointer v_30) ∧ E 12 = (Value.pointer v_32) ∧ b6j2 v_22 v_26 v_30 v_32 R F
def b6L1 (N1 : Int → PH → Prop) (vm_1 : Sl) (v_22 : Option Addr) (v_26 : Sl) (v_30 : Option Addr) (v_32 : Option Addr) (R : Value → PH → Prop) (i_16 : Int) (F : PH) : Prop :=
  ((i_16 < (vm_1.len : Int) →
    ((i_16 < (10 : Int) →
      ∃ a100_ : Addr, vm_1.base = some a100_ ∧ 0 ≤ i_16 ∧ i_16 < (vm_1.len : Int) ∧
      ∃ v_102 : Int, F.cell (Addr.add (Addr.add a100_ (Int.toNat i_16 * 5)) 1) = some (Value.int .i64 v_102) ∧
      ∃ a110_ : Addr, vm_1.base = some a110_ ∧ 0 ≤ i_16 ∧ i_16 < (vm_1.len : Int) ∧
      ∃ v_111 : Array Value, v_111.size = 5 ∧ F.row (Addr.add a110_ (Int.toNat i_16 * 5)) v_111 ∧
      ∃ a115_ : Addr, vm_1.base = some a115_ ∧ 0 ≤ i_16 ∧ i_16 < (vm_1.len : Int) ∧
      ∃ v_116 : Array Value, v_116.size = 5 ∧ F.row (Addr.add a115_ (Int.toNat i_16 * 5)) v_116 ∧
      Spec prog 28 #[(Value.agg v_111)] F fun v F => ∃ v_112 : Sl, v = (Sl.v v_112) ∧
      F.row (Addr.add a115_ (Int.toNat i_16 * 5)) v_116 ∧ Spec prog 28 #[(Value.agg v_116)] F fun v F => ∃ v_117 : Sl, v = (Sl.v v_117) ∧
      0 ≤ (min (v_117.len : Int) (64 : Int)) ∧ 0 ≤ (Int.toNat (min (v_117.len : Int) (64 : Int))) ∧ (Int.toNat (min (v_117.len : Int) (64 : Int))) ≤ v_112.cap ∧ 
      Spec prog 14 #[(Value.pointer v_22), (Value.int .i64 (Int.tmod (IntKind.i64.wrap ((Int.tmod v_102 (4 : Int)) + (4 : Int))) (4 : Int))), (Sl.v (Sl.cut v_112 1 0 (Int.toNat (min (v_117.len : Int) (64 : Int))) v_112.cap))] F fun v F => ∃ v_121 : Int, v = (Value.int .i64 v_121) ∧
      ∃ a126_ : Addr, vm_1.base = some a126_ ∧ 0 ≤ i_16 ∧ i_16 < (vm_1.len : Int) ∧
      ∃ v_127 : Array Value, v_127.size = 5 ∧ F.row (Addr.add a126_ (Int.toNat i_16 * 5)) v_127 ∧
      ∃ a131_ : Addr, vm_1.base = some a131_ ∧ 0 ≤ i_16 ∧ i_16 < (vm_1.len : Int) ∧
      ∃ v_132 : Array Value, v_132.size = 5 ∧ F.row (Addr.add a131_ (Int.toNat i_16 * 5)) v_132 ∧
      Spec prog 28 #[(Value.agg v_127)] F fun v F => ∃ v_128 : Sl, v = (Sl.v v_128) ∧
      F.row (Addr.add a131_ (Int.toNat i_16 * 5)) v_132 ∧ Spec prog 28 #[(Value.agg v_132)] F fun v F => ∃ v_133 : Sl, v = (Sl.v v_133) ∧
      0 ≤ (min (v_133.len : Int) (64 : Int)) ∧ 0 ≤ (Int.toNat (min (v_133.len : Int) (64 : Int))) ∧ (Int.toNat (min (v_133.len : Int) (64 : Int))) ≤ v_128.cap ∧ 
      Spec prog 14 #[(Value.pointer v_30), (Value.int .i64 (Int.tmod (IntKind.i64.wrap ((Int.tmod v_102 (4 : Int)) + (4 : Int))) (4 : Int))), (Sl.v (Sl.cut v_128 1 0 (Int.toNat (min (v_133.len : Int) (64 : Int))) v_128.cap))] F fun v F => ∃ v_137 : Int, v = (Value.int .i64 v_137) ∧
      ∃ a142_ : Addr, vm_1.base = some a142_ ∧ 0 ≤ i_16 ∧ i_16 < (vm_1.len : Int) ∧
      ∃ v_143 : Array Value, v_143.size = 5 ∧ F.row (Addr.add a142_ (Int.toNat i_16 * 5)) v_143 ∧
      ∃ a147_ : Addr, vm_1.base = some a147_ ∧ 0 ≤ i_16 ∧ i_16 < (vm_1.len : Int) ∧
      ∃ v_148 : Array Value, v_148.size = 5 ∧ F.row (Addr.add a147_ (Int.toNat i_16 * 5)) v_148 ∧
      Spec prog 28 #[(Value.agg v_143)] F fun v F => ∃ v_144 : Sl, v = (Sl.v v_144) ∧
      F.row (Addr.add a147_ (Int.toNat i_16 * 5)) v_148 ∧ Spec prog 28 #[(Value.agg v_148)] F fun v F => ∃ v_149 : Sl, v = (Sl.v v_149) ∧
      0 ≤ (min (v_149.len : Int) (64 : Int)) ∧ 0 ≤ (Int.toNat (min (v_149.len : Int) (64 : Int))) ∧ (Int.toNat (min (v_149.len : Int) (64 : Int))) ≤ v_144.cap ∧ 
      Spec prog 14 #[(Value.pointer v_32), (Value.int .i64 (Int.tmod (IntKind.i64.wrap ((Int.tmod v_102 (4 : Int)) + (4 : Int))) (4 : Int))), (Sl.v (Sl.cut v_144 1 0 (Int.toNat (min (v_149.len : Int) (64 : Int))) v_144.cap))] F fun v F => ∃ v_153 : Int, v = (Value.int .i64 v_153) ∧
      N1 (IntKind.i64.wrap (i_16 + (1 : Int))) F) ∧
    (¬ (i_16 < (10 : Int)) →
      b6j2 v_22 v_26 v_30 v_32 R F))) ∧
  (¬ (i_16 < (vm_1.len : Int)) →
    b6j2 v_22 v_26 v_30 v_32 R F))
def b6j1 (vm_1 : Sl) (v_22 : Option Addr) (v_26 : Sl) (v_30 : Option Addr) (v_32 : Option Addr) (R : Value → PH → Prop) (F : PH) : Prop :=
  (∃ (I1 : Nat → Int → PH → Prop) (m1 : Nat), I1 m1 (0 : Int) F ∧ ∀ m1 i_16 F, I1 m1 i_16 F →
    b6L1 (fun i_16 F => ∃ m', m' < m1 ∧ I1 m' i_16 F) vm_1 v_22 v_26 v_30 v_32 R i_16 F)
abbrev b6J1 (vm_1 : Sl) (v_22 : Option Addr) (v_26 : Sl) (v_30 : Option Addr) (v_32 : Option Addr) (R : Value → PH → Prop) (E : En) (F : PH) : Prop := E 1 = (Sl.v vm_1) ∧ E 8 = (Value.pointer v_22) ∧ E 9 = (Sl.v v_26) ∧ E 11 = (Value.pointer v_30) ∧ E 12 = (Value.pointer v_32) ∧ b6j1 vm_1 v_22 v_26 v_30 v_32 R F
def b6j3 (N2 : Int → PH → Prop) (vm_1 : Sl) (k_2 : Int) (v_22 : Option Addr) (v_26 : Sl) (v_30 : Option Addr) (v_32 : Option Addr) (v_58 : Sl) (i_14 : Int) (want_15 : Int) (R : Value → PH → Prop) (F : PH) : Prop :=
  (((v_58.len : Int) ≤ i_14 →
    R (Value.bool false) F) ∧
  (¬ ((v_58.len : Int) ≤ i_14) →
    ∃ a83_ : Addr, v_58.base = some a83_ ∧ 0 ≤ i_14 ∧ i_14 < (v_58.len : Int) ∧
    ∃ v_84 : Int, F.cell (Addr.add a83_ (Int.toNat i_14 * 1)) = some (Value.int .u8 v_84) ∧
    ((v_84 ≠ want_15 →
      R (Value.bool false) F) ∧
    (¬ (v_84 ≠ want_15) →
      N2 (IntKind.i64.wrap (i_14 + (1 : Int))) F))))
abbrev b6J3 (N2 : Int → PH → Prop) (vm_1 : Sl) (k_2 : Int) (v_22 : Option Addr) (v_26 : Sl) (v_30 : Option Addr) (v_32 : Option Addr) (v_58 : Sl) (i_14 : Int) (R : Value → PH → Prop) (E : En) (F : PH) : Prop := ∃ want_15 : Int, E 1 = (Sl.v vm_1) ∧ E 2 = (Value.int .i64 k_2) ∧ E 8 = (Value.pointer v_22) ∧ E 9 = (Sl.v v_26) ∧ E 11 = (Value.pointer v_30) ∧ E 12 = (Value.pointer v_32) ∧ E 13 = (Sl.v v_58) ∧ E 14 = (Value.int .i64 i_14) ∧ E 15 = (Value.int .u8 want_15) ∧ b6j3 N2 vm_1 k_2 v_22 v_26 v_30 v_32 v_58 i_14 want_15 R F
def b6L2 (N2 : Int → PH → Prop) (vm_1 : Sl) (k_2 : Int) (v_22 : Option Addr) (v_26 : Sl) (v_30 : Option Addr) (v_32 : Option Addr) (v_58 : Sl) (R : Value → PH → Prop) (i_14 : Int) (F : PH) : Prop :=
  ((i_14 < (256 : Int) →
    ∃ a65_ : Addr, v_26.base = some a65_ ∧ 0 ≤ i_14 ∧ i_14 < (v_26.len : Int) ∧
    ∃ v_66 : Int, F.cell (Addr.add a65_ (Int.toNat i_14 * 1)) = some (Value.int .u8 v_66) ∧
    (((IntKind.i64.wrap (Int.tdiv i_14 (64 : Int))) = (2 : Int) →
      (((Int.tmod i_14 (64 : Int)) < k_2 →
        b6j3 N2 vm_1 k_2 v_22 v_26 v_30 v_32 v_58 i_14 (200 : Int) R F) ∧
      (¬ ((Int.tmod i_14 (64 : Int)) < k_2) →
        b6j3 N2 vm_1 k_2 v_22 v_26 v_30 v_32 v_58 i_14 v_66 R F))) ∧
    (¬ ((IntKind.i64.wrap (Int.tdiv i_14 (64 : Int))) = (2 : Int)) →
      b6j3 N2 vm_1 k_2 v_22 v_26 v_30 v_32 v_58 i_14 v_66 R F))) ∧
  (¬ (i_14 < (256 : Int)) →
    b6j1 vm_1 v_22 v_26 v_30 v_32 R F))
def b6 (l_0 : Sl) (vm_1 : Sl) (k_2 : Int) (R : Value → PH → Prop) (F : PH) : Prop :=
  Spec prog 10 #[] F fun v F => ∃ v_18 : Bool, v = (Value.bool v_18) ∧
  (((!v_18) = true →
    R (Value.bool false) F) ∧
  ((!v_18) = false →
    Spec prog 11 #[(Sl.v l_0)] F fun v F => ∃ v_22 : Option Addr, v = (Value.pointer v_22) ∧
    Spec prog 17 #[(Value.pointer v_22)] F fun v F => ∃ v_24 : Int, v = (Value.int .i64 v_24) ∧
    Spec prog 12 #[(Value.pointer v_22)] F fun v F => ∃ v_26 : Sl, v = (Sl.v v_26) ∧
    Spec prog 27 #[(Value.pointer v_22)] F fun v F => ∃ v_28 : Option Addr, v = (Value.pointer v_28) ∧
    Spec prog 27 #[(Value.pointer v_22)] F fun v F => ∃ v_30 : Option Addr, v = (Value.pointer v_30) ∧
    Spec prog 27 #[(Value.pointer v_22)] F fun v F => ∃ v_32 : Option Addr, v = (Value.pointer v_32) ∧
    (((v_28.isNone) = true →
      R (Value.bool false) F) ∧
    ((v_28.isNone) = false →
      (((v_30.isNone) = true →
        R (Value.bool false) F) ∧
      ((v_30.isNone) = false →
        (((v_32.isNone) = true →
          R (Value.bool false) F) ∧
        ((v_32.isNone) = false →
          (((v_26.len : Int) ≠ (256 : Int) →
            R (Value.bool false) F) ∧
          (¬ ((v_26.len : Int) ≠ (256 : Int)) →
            Spec prog 15 #[(Value.int .u8 (200 : Int))] F fun v F => ∃ v_49 : Sl, v = (Sl.v v_49) ∧
            Spec prog 14 #[(Value.pointer v_28), (Value.int .i64 (2 : Int)), (Sl.v v_49)] F fun v F => ∃ v_50 : Int, v = (Value.int .i64 v_50) ∧
            ∀ b53, F b53 = none → atF (F.set b53 (.cells #[(Value.int .i64 k_2)] 3)) fun F =>
            Spec prog 19 #[(Value.pointer v_28), (Sl.v (Sl.mk (some (Addr.mk b53 0 none)) 1 1))] F fun v F => v = Value.tuple #[] ∧
            Spec prog 20 #[(Value.pointer v_28)] F fun v F => v = Value.tuple #[] ∧
            Spec prog 12 #[(Value.pointer v_28)] F fun v F => ∃ v_58 : Sl, v = (Sl.v v_58) ∧
            (∃ (I2 : Nat → Int → PH → Prop) (m2 : Nat), I2 m2 (0 : Int) F ∧ ∀ m2 i_14 F, I2 m2 i_14 F →
              b6L2 (fun i_14 F => ∃ m', m' < m2 ∧ I2 m' i_14 F) vm_1 k_2 v_22 v_26 v_30 v_32 v_58 R i_14 F)))))))))))
theorem c6 {l_0 : Sl} {vm_1 : Sl} {k_2 : Int} {R : Value → PH → Prop} {F : PH} (h : b6 l_0 vm_1 k_2 R F) : Spec prog 6 #[(Sl.v l_0), (Sl.v vm_1), (Value.int .i64 k_2)] F R := by
  refine spec_of (args := [(Sl.v l_0), (Sl.v vm_1), (Value.int .i64 k_2)]) func6 rfl ntmps6 rfl ?_
  unfold b6 at h
  refine HC_seq ?_
  refine HC_region ?_
  refine s_rd (v := (Value.bool false)) (r_assign rfl rfl) ?_
  refine HL_nil ?_
  refine HC_seq ?_
  refine HC_region ?_
  refine s_ef (k_call (vs := []) cb10 evN (h.mono ?_))
  clear h; rintro v F ⟨v_18, rfl, h⟩
  refine s_rd (v := (Value.bool v_18)) (r_assign rfl rfl) ?_
  refine HL_nil ?_
  refine HC_seq ?_
  refine HC_seq ?_
  refine HC_region ?_
  refine s_rd (v := (Value.bool v_18)) (r_move rfl rfl) ?_
  refine s_rd (v := (Value.bool (!v_18))) (r_not rfl rfl) ?_
  refine HL_nil ?_
  refine HC_cond (t := (!v_18)) rfl (fun hc => ?_) (fun hc => ?_)
  · replace h := h.1 hc
    clear hc
    refine HC_seq ?_
    refine HC_region ?_
    refine s_rd (v := (Value.bool false)) (r_assign rfl rfl) ?_
    refine HL_nil ?_
    exact HC_ret (show endQ prog f6 R .ret _ _ from ⟨_, res1 rfl (rv_tmp rfl), h⟩)
  · replace h := h.2 hc
    clear hc
    refine HC_skip ?_
    refine HC_seq ?_
    refine HC_region ?_
    refine s_rd (v := (Sl.v l_0)) (r_move rfl rfl) ?_
    refine s_ef (k_call (vs := [(Sl.v l_0)]) cb11 (evC rfl evN) (h.mono ?_))
    clear h; rintro v F ⟨v_22, rfl, h⟩
    refine s_rd (v := (Value.pointer v_22)) (r_assign rfl rfl) ?_
    refine HL_nil ?_
    refine HC_seq ?_
    refine HC_region ?_
    refine s_rd (v := (Value.pointer v_22)) (r_move rfl rfl) ?_
    refine s_ef (k_call (vs := [(Value.pointer v_22)]) cb17 (evC rfl evN) (h.mono ?_))
    clear h; rintro v F ⟨v_24, rfl, h⟩
    refine HL_nil ?_
    refine HC_seq ?_
    refine HC_region ?_
    refine s_rd (v := (Value.pointer v_22)) (r_move rfl rfl) ?_
    refine s_ef (k_call (vs := [(Value.pointer v_22)]) cb12 (evC rfl evN) (h.mono ?_))
    clear h; rintro v F ⟨v_26, rfl, h⟩
    refine s_rd (v := (Sl.v v_26)) (r_assign rfl rfl) ?_
    refine HL_nil ?_
    refine HC_seq ?_
    refine HC_region ?_
    refine s_rd (v := (Value.pointer v_22)) (r_move rfl rfl) ?_
    refine s_ef (k_call (vs := [(Value.pointer v_22)]) cb27 (evC rfl evN) (h.mono ?_))
    clear h; rintro v F ⟨v_28, rfl, h⟩
    refine s_rd (v := (Value.pointer v_28)) (r_assign rfl rfl) ?_
    refine HL_nil ?_
    refine HC_seq ?_
    refine HC_region ?_
    refine s_rd (v := (Value.pointer v_22)) (r_move rfl rfl) ?_
    refine s_ef (k_call (vs := [(Value.pointer v_22)]) cb27 (evC rfl evN) (h.mono ?_))
    clear h; rintro v F ⟨v_30, rfl, h⟩
    refine s_rd (v := (Value.pointer v_30)) (r_assign rfl rfl) ?_
    refine HL_nil ?_
    refine HC_seq ?_
    refine HC_region ?_
    refine s_rd (v := (Value.pointer v_22)) (r_move rfl rfl) ?_
    refine s_ef (k_call (vs := [(Value.pointer v_22)]) cb27 (evC rfl evN) (h.mono ?_))
    clear h; rintro v F ⟨v_32, rfl, h⟩
    refine s_rd (v := (Value.pointer v_32)) (r_assign rfl rfl) ?_
    refine HL_nil ?_
    refine HC_seq ?_
    refine HC_seq ?_
    refine HC_region ?_
    refine s_rd (v := (Value.pointer v_28)) (r_move rfl rfl) ?_
    refine s_rd (v := (Value.bool (v_28.isNone))) (r_eqlNil rfl rfl rfl underlying24) ?_
    refine s_rd (v := (Value.bool (v_28.isNone))) (r_move rfl rfl) ?_
    by_cases hc : (v_28.isNone) = true
    · replace h := h.1 hc
      refine HL_known (t := 34) (v := .bool true) (congrArg Value.bool hc) ?_
      refine HL_known (t := 35) (v := .bool true) (congrArg Value.bool hc) ?_
      refine s_skip ?_
      refine s_skip ?_
      refine s_rd (v := (Value.bool true)) (r_pick rfl rfl (fun _ => rfl) (fun h => by cases h)) ?_
      refine s_rd (v := (Value.bool true)) (r_move rfl rfl) ?_
      refine s_skip ?_
      refine s_skip ?_
      refine s_rd (v := (Value.bool true)) (r_pick rfl rfl (fun _ => rfl) (fun h => by cases h)) ?_
      refine s_rd (v := (Value.bool true)) (r_move rfl rfl) ?_
      refine s_skip ?_
      refine s_skip ?_
      refine s_skip ?_
      refine s_rd (v := (Value.bool true)) (r_pick rfl rfl (fun _ => rfl) (fun h => by cases h)) ?_
      refine HL_nil ?_
      refine HC_condT rfl ?_
      refine HC_seq ?_
      refine HC_region ?_
      refine s_rd (v := (Value.bool false)) (r_assign rfl rfl) ?_
      refine HL_nil ?_
      exact HC_ret (show endQ prog f6 R .ret _ _ from ⟨_, res1 rfl (rv_tmp rfl), h⟩)
    · replace hc := eq_false_of_ne_true hc; replace h := h.2 hc
      refine HL_known (t := 34) (v := .bool false) (congrArg Value.bool hc) ?_
      refine HL_known (t := 35) (v := .bool false) (congrArg Value.bool hc) ?_
      refine s_rd (v := (Value.pointer v_30)) (r_move rfl rfl) ?_
      refine s_rd (v := (Value.bool (v_30.isNone))) (r_eqlNil rfl rfl rfl underlying24) ?_
      refine s_rd (v := (Value.bool (v_30.isNone))) (r_pick rfl rfl (fun h => by cases h) (fun _ => rfl)) ?_
      refine s_rd (v := (Value.bool (v_30.isNone))) (r_move rfl rfl) ?_
      by_cases hc : (v_30.isNone) = true
      · replace h := h.1 hc
        refine HL_known (t := 37) (v := .bool true) (congrArg Value.bool hc) ?_
        refine HL_known (t := 38) (v := .bool true) (congrArg Value.bool hc) ?_
        refine HL_known (t := 39) (v := .bool true) (congrArg Value.bool hc) ?_
        refine s_skip ?_
        refine s_skip ?_
        refine s_rd (v := (Value.bool true)) (r_pick rfl rfl (fun _ => rfl) (fun h => by cases h)) ?_
        refine s_rd (v := (Value.bool true)) (r_move rfl rfl) ?_
        refine s_skip ?_
        refine s_skip ?_
        refine s_skip ?_
        refine s_rd (v := (Value.bool true)) (r_pick rfl rfl (fun _ => rfl) (fun h => by cases h)) ?_
        refine HL_nil ?_
        refine HC_condT rfl ?_
        refine HC_seq ?_
        refine HC_region ?_
        refine s_rd (v := (Value.bool false)) (r_assign rfl rfl) ?_
        refine HL_nil ?_
        exact HC_ret (show endQ prog f6 R .ret _ _ from ⟨_, res1 rfl (rv_tmp rfl), h⟩)
      · replace hc := eq_false_of_ne_true hc; replace h := h.2 hc
        refine HL_known (t := 37) (v := .bool false) (congrArg Value.bool hc) ?_
        refine HL_known (t := 38) (v := .bool false) (congrArg Value.bool hc) ?_
        refine HL_known (t := 39) (v := .bool false) (congrArg Value.bool hc) ?_
        refine s_rd (v := (Value.pointer v_32)) (r_move rfl rfl) ?_
        refine s_rd (v := (Value.bool (v_32.isNone))) (r_eqlNil rfl rfl rfl underlying24) ?_
        refine s_rd (v := (Value.bool (v_32.isNone))) (r_pick rfl rfl (fun h => by cases h) (fun _ => rfl)) ?_
        refine s_rd (v := (Value.bool (v_32.isNone))) (r_move rfl rfl) ?_
        by_cases hc : (v_32.isNone) = true
        · replace h := h.1 hc
          refine HL_known (t := 41) (v := .bool true) (congrArg Value.bool hc) ?_
          refine HL_known (t := 42) (v := .bool true) (congrArg Value.bool hc) ?_
          refine HL_known (t := 43) (v := .bool true) (congrArg Value.bool hc) ?_
          refine s_skip ?_
          refine s_skip ?_
          refine s_skip ?_
          refine s_rd (v := (Value.bool true)) (r_pick rfl rfl (fun _ => rfl) (fun h => by cases h)) ?_
          refine HL_nil ?_
          refine HC_condT rfl ?_
          refine HC_seq ?_
          refine HC_region ?_
          refine s_rd (v := (Value.bool false)) (r_assign rfl rfl) ?_
          refine HL_nil ?_
          exact HC_ret (show endQ prog f6 R .ret _ _ from ⟨_, res1 rfl (rv_tmp rfl), h⟩)
        · replace hc := eq_false_of_ne_true hc; replace h := h.2 hc
          refine HL_known (t := 41) (v := .bool false) (congrArg Value.bool hc) ?_
          refine HL_known (t := 42) (v := .bool false) (congrArg Value.bool hc) ?_
          refine HL_known (t := 43) (v := .bool false) (congrArg Value.bool hc) ?_
          refine s_rd (v := (Sl.v v_26)) (r_move rfl rfl) ?_
          refine s_rd (v := (Value.int .i64 (v_26.len : Int))) (r_lenSl rfl rfl underlying26) ?_
          refine s_rd (v := (Value.bool (decide ((v_26.len : Int) ≠ (256 : Int))))) (w_neq rfl rfl) ?_
          refine s_rd (v := (Value.bool (decide ((v_26.len : Int) ≠ (256 : Int))))) (r_pick rfl rfl (fun h => by cases h) (fun _ => rfl)) ?_
          refine HL_nil ?_
          refine HC_cond (t := (decide ((v_26.len : Int) ≠ (256 : Int)))) rfl (fun hc => ?_) (fun hc => ?_)
          · replace h := h.1 (of_decide_eq_true hc)
            clear hc
            refine HC_seq ?_
            refine HC_region ?_
            refine s_rd (v := (Value.bool false)) (r_assign rfl rfl) ?_
            refine HL_nil ?_
            exact HC_ret (show endQ prog f6 R .ret _ _ from ⟨_, res1 rfl (rv_tmp rfl), h⟩)
          · replace h := h.2 (of_decide_eq_false hc)
            clear hc
            refine HC_skip ?_
            refine HC_seq ?_
            refine HC_region ?_
            refine s_rd (v := (Value.pointer v_28)) (r_move rfl rfl) ?_
            refine s_ef (k_call (vs := [(Value.int .u8 (200 : Int))]) cb15 (evC rfl evN) (h.mono ?_))
            clear h; rintro v F ⟨v_49, rfl, h⟩
            refine s_ef (k_call (vs := [(Value.pointer v_28), (Value.int .i64 (2 : Int)), (Sl.v v_49)]) cb14 (evC rfl (evC rfl (evC rfl evN))) (h.mono ?_))
            clear h; rintro v F ⟨v_50, rfl, h⟩
            refine HL_nil ?_
            refine HC_seq ?_
            refine HC_region ?_
            refine s_rd (v := (Value.pointer v_28)) (r_move rfl rfl) ?_
            refine s_rd (v := (Value.int .i64 k_2)) (r_move rfl rfl) ?_
            refine s_ef (k_buildSeq (l := [(Value.int .i64 k_2)]) underlying37 sz3 (by decide) zr3 rfl rfl ⟨rfl, trivial⟩ (evPC rfl evPN) ?_)
            intro b53 hf_b53
            replace h := atE (h b53 hf_b53)
            refine s_ef (k_call (vs := [(Value.pointer v_28), (Sl.v (Sl.mk (some (Addr.mk b53 0 none)) 1 1))]) cb19 (evC rfl (evC rfl evN)) (h.mono ?_))
            clear h; rintro v F ⟨rfl, h⟩
            refine HL_nil ?_
            refine HC_seq ?_
            refine HC_region ?_
            refine s_rd (v := (Value.pointer v_28)) (r_move rfl rfl) ?_
            refine s_ef (k_call (vs := [(Value.pointer v_28)]) cb20 (evC rfl evN) (h.mono ?_))
            clear h; rintro v F ⟨rfl, h⟩
            refine HL_nil ?_
            refine HC_seq ?_
            refine HC_region ?_
            refine s_rd (v := (Value.pointer v_28)) (r_move rfl rfl) ?_
            refine s_ef (k_call (vs := [(Value.pointer v_28)]) cb12 (evC rfl evN) (h.mono ?_))
            clear h; rintro v F ⟨v_58, rfl, h⟩
            refine s_rd (v := (Sl.v v_58)) (r_assign rfl rfl) ?_
            refine HL_nil ?_
            refine HC_seqJ (b6J1 vm_1 v_22 v_26 v_30 v_32 R) ?_ ?_
            · clear h; rintro E F ⟨h1, h8, h9, h11, h12, h⟩
              unfold b6j1 at h
              refine HC_seqJ (b6J2 v_22 v_26 v_30 v_32 R) ?_ ?_
              · clear h; rintro E F ⟨h8, h9, h11, h12, h⟩
                unfold b6j2 at h
                refine HC_seq ?_
                refine HC_region ?_
                refine s_rd (v := (Value.pointer v_22)) (r_move rfl h8) ?_
                refine s_ef (k_call (vs := [(Value.pointer v_22)]) cb17 (evC rfl evN) (h.mono ?_))
                clear h; rintro v F ⟨v_155, rfl, h⟩
                refine HL_nil ?_
                refine HC_seq ?_
                refine HC_region ?_
                refine s_rd (v := (Value.pointer v_30)) (r_move rfl h11) ?_
                refine s_ef (k_buildSeq (l := [(Value.int .i64 (64 : Int)), (Value.int .i64 (64 : Int)), (Value.int .i64 (64 : Int)), (Value.int .i64 (64 : Int)), (Value.int .i64 (64 : Int)), (Value.int .i64 (64 : Int)), (Value.int .i64 (64 : Int)), (Value.int .i64 (64 : Int)), (Value.int .i64 (64 : Int)), (Value.int .i64 (1099511627776 : Int))]) underlying37 sz3 (by decide) zr3 rfl rfl ⟨rfl, rfl, rfl, rfl, rfl, rfl, rfl, rfl, rfl, rfl, trivial⟩ (evPC rfl (evPC rfl (evPC rfl (evPC rfl (evPC rfl (evPC rfl (evPC rfl (evPC rfl (evPC rfl (evPC rfl evPN)))))))))) ?_)
                intro b157 hf_b157
                replace h := atE (h b157 hf_b157)
                refine s_ef (k_call (vs := [(Value.pointer v_30), (Sl.v (Sl.mk (some (Addr.mk b157 0 none)) 10 10))]) cb19 (evC rfl (evC rfl evN)) (h.mono ?_))
                clear h; rintro v F ⟨rfl, h⟩
                refine HL_nil ?_
                refine HC_seq ?_
                refine HC_region ?_
                refine s_rd (v := (Value.pointer v_30)) (r_move rfl h11) ?_
                refine s_ef (k_call (vs := [(Value.pointer v_30)]) cb20 (evC rfl evN) (h.mono ?_))
                clear h; rintro v F ⟨rfl, h⟩
                refine HL_nil ?_
                refine HC_seq ?_
                refine HC_region ?_
                refine s_rd (v := (Value.pointer v_32)) (r_move rfl h12) ?_
                refine s_ef (k_buildSeq (l := [(Value.int .i64 (-3 : Int))]) underlying37 sz3 (by decide) zr3 rfl rfl ⟨rfl, trivial⟩ (evPC rfl evPN) ?_)
                intro b162 hf_b162
                replace h := atE (h b162 hf_b162)
                refine s_ef (k_call (vs := [(Value.pointer v_32), (Sl.v (Sl.mk (some (Addr.mk b162 0 none)) 1 1))]) cb19 (evC rfl (evC rfl evN)) (h.mono ?_))
                clear h; rintro v F ⟨rfl, h⟩
                refine HL_nil ?_
                refine HC_seq ?_
                refine HC_region ?_
                refine s_rd (v := (Value.pointer v_32)) (r_move rfl h12) ?_
                refine s_ef (k_call (vs := [(Value.pointer v_32)]) cb20 (evC rfl evN) (h.mono ?_))
                clear h; rintro v F ⟨rfl, h⟩
                refine HL_nil ?_
                refine HC_seq ?_
                refine HC_region ?_
                refine s_rd (v := (Value.pointer v_30)) (r_move rfl h11) ?_
                refine s_ef (k_call (vs := [(Value.pointer v_30)]) cb12 (evC rfl evN) (h.mono ?_))
                clear h; rintro v F ⟨v_167, rfl, h⟩
                refine s_rd (v := (Value.pointer v_22)) (r_move rfl h8) ?_
                refine s_ef (k_call (vs := [(Value.pointer v_22)]) cb12 (evC rfl evN) (h.mono ?_))
                clear h; rintro v F ⟨v_169, rfl, h⟩
                refine s_ef (k_call (vs := [(Sl.v v_167), (Sl.v v_169)]) cb18 (evC rfl (evC rfl evN)) (h.mono ?_))
                clear h; rintro v F ⟨v_170, rfl, h⟩
                refine s_rd (v := (Value.bool v_170)) (r_move rfl rfl) ?_
                by_cases hc : v_170 = true
                · replace h := h.1 hc
                  refine HL_known (t := 170) (v := .bool true) (congrArg Value.bool hc) ?_
                  refine HL_known (t := 171) (v := .bool true) (congrArg Value.bool hc) ?_
                  refine s_rd (v := (Value.pointer v_32)) (r_move rfl h12) ?_
                  refine s_ef (k_call (vs := [(Value.pointer v_32)]) cb12 (evC rfl evN) (h.mono ?_))
                  clear h; rintro v F ⟨v_173, rfl, h⟩
                  refine s_rd (v := (Sl.v v_26)) (r_move rfl h9) ?_
                  refine s_ef (k_call (vs := [(Sl.v v_173), (Sl.v v_26)]) cb18 (evC rfl (evC rfl evN)) (h.mono ?_))
                  clear h; rintro v F ⟨v_175, rfl, h⟩
                  refine s_rd (v := (Value.bool v_175)) (r_pick rfl rfl (fun _ => rfl) (fun h => by cases h)) ?_
                  refine s_rd (v := (Value.bool v_175)) (r_assign rfl rfl) ?_
                  refine HL_nil ?_
                  exact HC_ret (show endQ prog f6 R .ret _ _ from ⟨_, res1 rfl (rv_tmp rfl), h⟩)
                · replace hc := eq_false_of_ne_true hc; replace h := h.2 hc
                  refine HL_known (t := 170) (v := .bool false) (congrArg Value.bool hc) ?_
                  refine HL_known (t := 171) (v := .bool false) (congrArg Value.bool hc) ?_
                  refine s_skip ?_
                  refine s_skip ?_
                  refine s_skip ?_
                  refine s_skip ?_
                  refine s_rd (v := (Value.bool false)) (r_pick rfl rfl (fun h => by cases h) (fun _ => rfl)) ?_
                  refine s_rd (v := (Value.bool false)) (r_assign rfl rfl) ?_
                  refine HL_nil ?_
                  exact HC_ret (show endQ prog f6 R .ret _ _ from ⟨_, res1 rfl (rv_tmp rfl), h⟩)
              · skip
                refine HC_seq ?_
                refine HC_region ?_
                refine s_rd (v := (Value.int .i64 (0 : Int))) (r_assign rfl rfl) ?_
                refine HL_nil ?_
                refine HC_block ?_
                obtain ⟨I1, m1, hI0, hr⟩ := h
                refine HC_loop (fun m1 E F => ∃ i_16 : Int, E 1 = (Sl.v vm_1) ∧ E 8 = (Value.pointer v_22) ∧ E 9 = (Sl.v v_26) ∧ E 11 = (Value.pointer v_30) ∧ E 12 = (Value.pointer v_32) ∧ E 16 = (Value.int .i64 i_16) ∧ I1 m1 i_16 F) m1 ⟨_, h1, h8, h9, h11, h12, rfl, hI0⟩ ?_
                clear hI0; rintro m1 E F ⟨i_16, h1, h8, h9, h11, h12, h16, hI⟩
                have h := hr m1 i_16 F hI
                clear hr hI
                unfold b6L1 at h
                refine HC_seq ?_
                refine HC_seq ?_
                refine HC_region ?_
                refine s_rd (v := (Value.int .i64 i_16)) (r_move rfl h16) ?_
                refine s_rd (v := (Sl.v vm_1)) (r_move rfl h1) ?_
                refine s_rd (v := (Value.int .i64 (vm_1.len : Int))) (r_lenSl rfl rfl underlying22) ?_
                refine s_rd (v := (Value.bool (decide (i_16 < (vm_1.len : Int))))) (r_lss rfl rfl rfl) ?_
                refine s_rd (v := (Value.bool (decide (i_16 < (vm_1.len : Int))))) (r_move rfl rfl) ?_
                by_cases hc : i_16 < (vm_1.len : Int)
                · replace h := h.1 hc
                  refine HL_known (t := 91) (v := .bool true) (congrArg Value.bool (decide_eq_true hc)) ?_
                  refine HL_known (t := 92) (v := .bool true) (congrArg Value.bool (decide_eq_true hc)) ?_
                  refine s_rd (v := (Value.int .i64 i_16)) (r_move rfl h16) ?_
                  refine s_rd (v := (Value.bool (decide (i_16 < (10 : Int))))) (r_lss rfl rfl rfl) ?_
                  refine s_rd (v := (Value.bool (decide (i_16 < (10 : Int))))) (r_pick rfl rfl (fun _ => rfl) (fun h => by cases h)) ?_
                  refine HL_nil ?_
                  refine HC_cond (t := (decide (i_16 < (10 : Int)))) rfl (fun hc => ?_) (fun hc => ?_)
                  · replace h := h.1 (of_decide_eq_true hc)
                    clear hc
                    refine HC_skip ?_
                    refine HC_seq ?_
                    refine HC_block ?_
                    refine HC_seq ?_
                    refine HC_region ?_
                    refine s_rd (v := (Sl.v vm_1)) (r_move rfl h1) ?_
                    refine s_rd (v := (Value.int .i64 i_16)) (r_move rfl h16) ?_
                    obtain ⟨a100_, hb100, hl100, hu100, h⟩ := h
                    refine s_rd (v := (Value.pointer (some (Addr.add a100_ (Int.toNat i_16 * 5))))) (w_indexAddr rfl rfl underlying22 sz40 hb100 hl100 hu100) ?_
                    refine s_rd (v := (Value.pointer (some (Addr.add (Addr.add a100_ (Int.toNat i_16 * 5)) 1)))) (w_fieldAddr (a' := (Addr.add (Addr.add a100_ (Int.toNat i_16 * 5)) 1)) rfl underlying40 rfl rfl sz3 rfl rfl) ?_
                    obtain ⟨v_102, hc102, h⟩ := h
                    refine s_rd (v := (Value.int .i64 v_102)) (r_load1 rfl rfl underlying3 rfl hc102) ?_
                    refine s_rd (v := (Value.int .i64 (Int.tmod v_102 (4 : Int)))) (r_rem rfl rfl rfl (by decide)) ?_
                    refine s_rd (v := (Value.int .i64 (IntKind.i64.wrap ((Int.tmod v_102 (4 : Int)) + (4 : Int))))) (r_add rfl rfl rfl) ?_
                    refine s_rd (v := (Value.int .i64 (Int.tmod (IntKind.i64.wrap ((Int.tmod v_102 (4 : Int)) + (4 : Int))) (4 : Int)))) (r_rem rfl rfl rfl (by decide)) ?_
                    refine s_rd (v := (Value.int .i64 (Int.tmod (IntKind.i64.wrap ((Int.tmod v_102 (4 : Int)) + (4 : Int))) (4 : Int)))) (r_assign rfl rfl) ?_
                    refine HL_nil ?_
                    refine HC_seq ?_
                    refine HC_draw0 (by kernel_rfl) (fun hp => ?_)
                    refine g_pu (i := 0) (v := (Value.pointer v_22)) rfl (by kernel_rfl) (by kernel_rfl) (by kernel_rfl) (fun _ _ _ h => h) (fun _ => r_move rfl h8) hp ?_
                    refine g_pu (i := 1) (v := (Value.int .i64 (Int.tmod (IntKind.i64.wrap ((Int.tmod v_102 (4 : Int)) + (4 : Int))) (4 : Int)))) rfl (by kernel_rfl) (by kernel_rfl) (by kernel_rfl) (fun _ _ _ h => h) (fun _ => r_move rfl rfl) hp ?_
                    refine g_pu (i := 2) (v := (Sl.v vm_1)) rfl (by kernel_rfl) (by kernel_rfl) (by kernel_rfl) (fun _ _ _ h => h) (fun _ => r_move rfl h1) hp ?_
                    refine g_pu (i := 3) (v := (Value.int .i64 i_16)) rfl (by kernel_rfl) (by kernel_rfl) (by kernel_rfl) (fun _ _ _ h => h) (fun _ => r_move rfl h16) hp ?_
                    obtain ⟨a110_, hb110, hl110, hu110, h⟩ := h
                    refine g_pu (i := 4) (v := (Value.pointer (some (Addr.add a110_ (Int.toNat i_16 * 5))))) rfl (by kernel_rfl) (by kernel_rfl) (by kernel_rfl) (fun _ _ _ h => h) (fun _ => w_indexAddr rfl rfl underlying22 sz40 hb110 hl110 hu110) hp ?_
                    obtain ⟨v_111, hs111, hc111, h⟩ := h
                    refine g_rd (i := 5) (v := (Value.agg v_111)) rfl (by kernel_rfl) (by kernel_rfl) (by kernel_rfl) (fun _ _ _ h => h) (w_loadN rfl underlying40 rfl sz40 hs111 hc111) hp (fun S5 q5 => ?_)
                    replace hp := holdC (i := 5) (q5 _ (w_loadN rfl underlying40 rfl sz40 hs111 hc111)) hp
                    refine g_pu (i := 7) (v := (Sl.v vm_1)) rfl (by kernel_rfl) (by kernel_rfl) (by kernel_rfl) (fun _ _ _ h => h) (fun _ => r_move rfl h1) hp ?_
                    refine g_pu (i := 8) (v := (Value.int .i64 i_16)) rfl (by kernel_rfl) (by kernel_rfl) (by kernel_rfl) (fun _ _ _ h => h) (fun _ => r_move rfl h16) hp ?_
                    obtain ⟨a115_, hb115, hl115, hu115, h⟩ := h
                    refine g_pu (i := 9) (v := (Value.pointer (some (Addr.add a115_ (Int.toNat i_16 * 5))))) rfl (by kernel_rfl) (by kernel_rfl) (by kernel_rfl) (fun _ _ _ h => h) (fun _ => w_indexAddr rfl rfl underlying22 sz40 hb115 hl115 hu115) hp ?_
                    obtain ⟨v_116, hs116, hc116, h⟩ := h
                    refine g_rd (i := 10) (v := (Value.agg v_116)) rfl (by kernel_rfl) (by kernel_rfl) (by kernel_rfl) (fun _ _ _ h => h) (w_loadN rfl underlying40 rfl sz40 hs116 hc116) hp (fun S10 q10 => ?_)
                    replace hp := holdC (i := 10) (q10 _ (w_loadN rfl underlying40 rfl sz40 hs116 hc116)) hp
                    refine RG_eff1 (i := 6) (by kernel_rfl) (g_op (Sp' := [(10, S10)]) rfl rfl (k_call (vs := [(Value.agg v_111)]) cb28 (evC rfl evN) (h.mono ?_)))
                    clear h; rintro v F ⟨v_112, rfl, h⟩
                    obtain ⟨hc116', h⟩ := h
                    refine holdI (holdC (i := 10) (q10 _ (w_loadN rfl underlying40 rfl sz40 hs116 hc116')) hold0) (fun hp => ?_)
                    refine RG_eff1 (i := 11) (by kernel_rfl) (g_op (Sp' := []) rfl rfl (k_call (vs := [(Value.agg v_116)]) cb28 (evC rfl evN) (h.mono ?_)))
                    clear h; rintro v F ⟨v_117, rfl, h⟩
                    refine holdI hold0 (fun hp => ?_)
                    refine g_pu (i := 12) (v := (Value.int .i64 (v_117.len : Int))) rfl (by kernel_rfl) (by kernel_rfl) (by kernel_rfl) (fun _ _ _ h => h) (fun _ => r_lenSl rfl rfl underlying26) hp ?_
                    refine g_pu (i := 13) (v := (Value.int .i64 (min (v_117.len : Int) (64 : Int)))) rfl (by kernel_rfl) (by kernel_rfl) (by kernel_rfl) (fun _ _ _ h => h) (fun _ => r_min2 rfl rfl rfl) hp ?_
                    obtain ⟨hq120_0, hr120_0, hr120_1, h⟩ := h
                    refine g_pu (i := 14) (v := (Sl.v (Sl.cut v_112 1 0 (Int.toNat (min (v_117.len : Int) (64 : Int))) v_112.cap))) rfl (by kernel_rfl) (by kernel_rfl) (by kernel_rfl) (fun _ _ _ h => h) (fun _ => r_sliceSl rfl rfl underlying26 sz5 bo_none (bo_ev rfl hq120_0) hr120_0 hr120_1) hp ?_
                    refine RG_eff1 (i := 15) (by kernel_rfl) (g_op (Sp' := []) rfl rfl (k_call (vs := [(Value.pointer v_22), (Value.int .i64 (Int.tmod (IntKind.i64.wrap ((Int.tmod v_102 (4 : Int)) + (4 : Int))) (4 : Int))), (Sl.v (Sl.cut v_112 1 0 (Int.toNat (min (v_117.len : Int) (64 : Int))) v_112.cap))]) cb14 (evC rfl (evC rfl (evC rfl evN))) (h.mono ?_)))
                    clear h; rintro v F ⟨v_121, rfl, h⟩
                    refine holdI hold0 (fun hp => ?_)
                    refine RG_done (by kernel_rfl) ?_
                    refine HC_seq ?_
                    refine HC_draw0 (by kernel_rfl) (fun hp => ?_)
                    refine g_pu (i := 0) (v := (Value.pointer v_30)) rfl (by kernel_rfl) (by kernel_rfl) (by kernel_rfl) (fun _ _ _ h => h) (fun _ => r_move rfl h11) hp ?_
                    refine g_pu (i := 1) (v := (Value.int .i64 (Int.tmod (IntKind.i64.wrap ((Int.tmod v_102 (4 : Int)) + (4 : Int))) (4 : Int)))) rfl (by kernel_rfl) (by kernel_rfl) (by kernel_rfl) (fun _ _ _ h => h) (fun _ => r_move rfl rfl) hp ?_
                    refine g_pu (i := 2) (v := (Sl.v vm_1)) rfl (by kernel_rfl) (by kernel_rfl) (by kernel_rfl) (fun _ _ _ h => h) (fun _ => r_move rfl h1) hp ?_
                    refine g_pu (i := 3) (v := (Value.int .i64 i_16)) rfl (by kernel_rfl) (by kernel_rfl) (by kernel_rfl) (fun _ _ _ h => h) (fun _ => r_move rfl h16) hp ?_
                    obtain ⟨a126_, hb126, hl126, hu126, h⟩ := h
                    refine g_pu (i := 4) (v := (Value.pointer (some (Addr.add a126_ (Int.toNat i_16 * 5))))) rfl (by kernel_rfl) (by kernel_rfl) (by kernel_rfl) (fun _ _ _ h => h) (fun _ => w_indexAddr rfl rfl underlying22 sz40 hb126 hl126 hu126) hp ?_
                    obtain ⟨v_127, hs127, hc127, h⟩ := h
                    refine g_rd (i := 5) (v := (Value.agg v_127)) rfl (by kernel_rfl) (by kernel_rfl) (by kernel_rfl) (fun _ _ _ h => h) (w_loadN rfl underlying40 rfl sz40 hs127 hc127) hp (fun S5 q5 => ?_)
                    replace hp := holdC (i := 5) (q5 _ (w_loadN rfl underlying40 rfl sz40 hs127 hc127)) hp
                    refine g_pu (i := 7) (v := (Sl.v vm_1)) rfl (by kernel_rfl) (by kernel_rfl) (by kernel_rfl) (fun _ _ _ h => h) (fun _ => r_move rfl h1) hp ?_
                    refine g_pu (i := 8) (v := (Value.int .i64 i_16)) rfl (by kernel_rfl) (by kernel_rfl) (by kernel_rfl) (fun _ _ _ h => h) (fun _ => r_move rfl h16) hp ?_
                    obtain ⟨a131_, hb131, hl131, hu131, h⟩ := h
                    refine g_pu (i := 9) (v := (Value.pointer (some (Addr.add a131_ (Int.toNat i_16 * 5))))) rfl (by kernel_rfl) (by kernel_rfl) (by kernel_rfl) (fun _ _ _ h => h) (fun _ => w_indexAddr rfl rfl underlying22 sz40 hb131 hl131 hu131) hp ?_
                    obtain ⟨v_132, hs132, hc132, h⟩ := h
                    refine g_rd (i := 10) (v := (Value.agg v_132)) rfl (by kernel_rfl) (by kernel_rfl) (by kernel_rfl) (fun _ _ _ h => h) (w_loadN rfl underlying40 rfl sz40 hs132 hc132) hp (fun S10 q10 => ?_)
                    replace hp := holdC (i := 10) (q10 _ (w_loadN rfl underlying40 rfl sz40 hs132 hc132)) hp
                    refine RG_eff1 (i := 6) (by kernel_rfl) (g_op (Sp' := [(10, S10)]) rfl rfl (k_call (vs := [(Value.agg v_127)]) cb28 (evC rfl evN) (h.mono ?_)))
                    clear h; rintro v F ⟨v_128, rfl, h⟩
                    obtain ⟨hc132', h⟩ := h
                    refine holdI (holdC (i := 10) (q10 _ (w_loadN rfl underlying40 rfl sz40 hs132 hc132')) hold0) (fun hp => ?_)
                    refine RG_eff1 (i := 11) (by kernel_rfl) (g_op (Sp' := []) rfl rfl (k_call (vs := [(Value.agg v_132)]) cb28 (evC rfl evN) (h.mono ?_)))
                    clear h; rintro v F ⟨v_133, rfl, h⟩
                    refine holdI hold0 (fun hp => ?_)
                    refine g_pu (i := 12) (v := (Value.int .i64 (v_133.len : Int))) rfl (by kernel_rfl) (by kernel_rfl) (by kernel_rfl) (fun _ _ _ h => h) (fun _ => r_lenSl rfl rfl underlying26) hp ?_
                    refine g_pu (i := 13) (v := (Value.int .i64 (min (v_133.len : Int) (64 : Int)))) rfl (by kernel_rfl) (by kernel_rfl) (by kernel_rfl) (fun _ _ _ h => h) (fun _ => r_min2 rfl rfl rfl) hp ?_
                    obtain ⟨hq136_0, hr136_0, hr136_1, h⟩ := h
                    refine g_pu (i := 14) (v := (Sl.v (Sl.cut v_128 1 0 (Int.toNat (min (v_133.len : Int) (64 : Int))) v_128.cap))) rfl (by kernel_rfl) (by kernel_rfl) (by kernel_rfl) (fun _ _ _ h => h) (fun _ => r_sliceSl rfl rfl underlying26 sz5 bo_none (bo_ev rfl hq136_0) hr136_0 hr136_1) hp ?_
                    refine RG_eff1 (i := 15) (by kernel_rfl) (g_op (Sp' := []) rfl rfl (k_call (vs := [(Value.pointer v_30), (Value.int .i64 (Int.tmod (IntKind.i64.wrap ((Int.tmod v_102 (4 : Int)) + (4 : Int))) (4 : Int))), (Sl.v (Sl.cut v_128 1 0 (Int.toNat (min (v_133.len : Int) (64 : Int))) v_128.cap))]) cb14 (evC rfl (evC rfl (evC rfl evN))) (h.mono ?_)))
                    clear h; rintro v F ⟨v_137, rfl, h⟩
                    refine holdI hold0 (fun hp => ?_)
                    refine RG_done (by kernel_rfl) ?_
                    refine HC_draw0 (by kernel_rfl) (fun hp => ?_)
                    refine g_pu (i := 0) (v := (Value.pointer v_32)) rfl (by kernel_rfl) (by kernel_rfl) (by kernel_rfl) (fun _ _ _ h => h) (fun _ => r_move rfl h12) hp ?_
                    refine g_pu (i := 1) (v := (Value.int .i64 (Int.tmod (IntKind.i64.wrap ((Int.tmod v_102 (4 : Int)) + (4 : Int))) (4 : Int)))) rfl (by kernel_rfl) (by kernel_rfl) (by kernel_rfl) (fun _ _ _ h => h) (fun _ => r_move rfl rfl) hp ?_
                    refine g_pu (i := 2) (v := (Sl.v vm_1)) rfl (by kernel_rfl) (by kernel_rfl) (by kernel_rfl) (fun _ _ _ h => h) (fun _ => r_move rfl h1) hp ?_
                    refine g_pu (i := 3) (v := (Value.int .i64 i_16)) rfl (by kernel_rfl) (by kernel_rfl) (by kernel_rfl) (fun _ _ _ h => h) (fun _ => r_move rfl h16) hp ?_
                    obtain ⟨a142_, hb142, hl142, hu142, h⟩ := h
                    refine g_pu (i := 4) (v := (Value.pointer (some (Addr.add a142_ (Int.toNat i_16 * 5))))) rfl (by kernel_rfl) (by kernel_rfl) (by kernel_rfl) (fun _ _ _ h => h) (fun _ => w_indexAddr rfl rfl underlying22 sz40 hb142 hl142 hu142) hp ?_
                    obtain ⟨v_143, hs143, hc143, h⟩ := h
                    refine g_rd (i := 5) (v := (Value.agg v_143)) rfl (by kernel_rfl) (by kernel_rfl) (by kernel_rfl) (fun _ _ _ h => h) (w_loadN rfl underlying40 rfl sz40 hs143 hc143) hp (fun S5 q5 => ?_)
                    replace hp := holdC (i := 5) (q5 _ (w_loadN rfl underlying40 rfl sz40 hs143 hc143)) hp
                    refine g_pu (i := 7) (v := (Sl.v vm_1)) rfl (by kernel_rfl) (by kernel_rfl) (by kernel_rfl) (fun _ _ _ h => h) (fun _ => r_move rfl h1) hp ?_
                    refine g_pu (i := 8) (v := (Value.int .i64 i_16)) rfl (by kernel_rfl) (by kernel_rfl) (by kernel_rfl) (fun _ _ _ h => h) (fun _ => r_move rfl h16) hp ?_
                    obtain ⟨a147_, hb147, hl147, hu147, h⟩ := h
                    refine g_pu (i := 9) (v := (Value.pointer (some (Addr.add a147_ (Int.toNat i_16 * 5))))) rfl (by kernel_rfl) (by kernel_rfl) (by kernel_rfl) (fun _ _ _ h => h) (fun _ => w_indexAddr rfl rfl underlying22 sz40 hb147 hl147 hu147) hp ?_
                    obtain ⟨v_148, hs148, hc148, h⟩ := h
                    refine g_rd (i := 10) (v := (Value.agg v_148)) rfl (by kernel_rfl) (by kernel_rfl) (by kernel_rfl) (fun _ _ _ h => h) (w_loadN rfl underlying40 rfl sz40 hs148 hc148) hp (fun S10 q10 => ?_)
                    replace hp := holdC (i := 10) (q10 _ (w_loadN rfl underlying40 rfl sz40 hs148 hc148)) hp
                    refine RG_eff1 (i := 6) (by kernel_rfl) (g_op (Sp' := [(10, S10)]) rfl rfl (k_call (vs := [(Value.agg v_143)]) cb28 (evC rfl evN) (h.mono ?_)))
                    clear h; rintro v F ⟨v_144, rfl, h⟩
                    obtain ⟨hc148', h⟩ := h
                    refine holdI (holdC (i := 10) (q10 _ (w_loadN rfl underlying40 rfl sz40 hs148 hc148')) hold0) (fun hp => ?_)
                    refine RG_eff1 (i := 11) (by kernel_rfl) (g_op (Sp' := []) rfl rfl (k_call (vs := [(Value.agg v_148)]) cb28 (evC rfl evN) (h.mono ?_)))
                    clear h; rintro v F ⟨v_149, rfl, h⟩
                    refine holdI hold0 (fun hp => ?_)
                    refine g_pu (i := 12) (v := (Value.int .i64 (v_149.len : Int))) rfl (by kernel_rfl) (by kernel_rfl) (by kernel_rfl) (fun _ _ _ h => h) (fun _ => r_lenSl rfl rfl underlying26) hp ?_
                    refine g_pu (i := 13) (v := (Value.int .i64 (min (v_149.len : Int) (64 : Int)))) rfl (by kernel_rfl) (by kernel_rfl) (by kernel_rfl) (fun _ _ _ h => h) (fun _ => r_min2 rfl rfl rfl) hp ?_
                    obtain ⟨hq152_0, hr152_0, hr152_1, h⟩ := h
                    refine g_pu (i := 14) (v := (Sl.v (Sl.cut v_144 1 0 (Int.toNat (min (v_149.len : Int) (64 : Int))) v_144.cap))) rfl (by kernel_rfl) (by kernel_rfl) (by kernel_rfl) (fun _ _ _ h => h) (fun _ => r_sliceSl rfl rfl underlying26 sz5 bo_none (bo_ev rfl hq152_0) hr152_0 hr152_1) hp ?_
                    refine RG_eff1 (i := 15) (by kernel_rfl) (g_op (Sp' := []) rfl rfl (k_call (vs := [(Value.pointer v_32), (Value.int .i64 (Int.tmod (IntKind.i64.wrap ((Int.tmod v_102 (4 : Int)) + (4 : Int))) (4 : Int))), (Sl.v (Sl.cut v_144 1 0 (Int.toNat (min (v_149.len : Int) (64 : Int))) v_144.cap))]) cb14 (evC rfl (evC rfl (evC rfl evN))) (h.mono ?_)))
                    clear h; rintro v F ⟨v_153, rfl, h⟩
                    refine holdI hold0 (fun hp => ?_)
                    refine RG_done (by kernel_rfl) ?_
                    refine HC_region ?_
                    refine s_rd (v := (Value.int .i64 i_16)) (r_move rfl h16) ?_
                    refine s_rd (v := (Value.int .i64 (IntKind.i64.wrap (i_16 + (1 : Int))))) (r_add rfl rfl rfl) ?_
                    refine s_rd (v := (Value.int .i64 (IntKind.i64.wrap (i_16 + (1 : Int))))) (r_assign rfl rfl) ?_
                    refine HL_nil ?_
                    obtain ⟨m', hm, h⟩ := h
                    exact ⟨m', hm, _, h1, h8, h9, h11, h12, rfl, h⟩
                  · replace h := h.2 (of_decide_eq_false hc)
                    clear hc
                    refine HC_exit ?_
                    show b6J2 v_22 v_26 v_30 v_32 R _ _
                    exact ⟨h8, h9, h11, h12, h⟩
                · replace h := h.2 hc
                  refine HL_known (t := 91) (v := .bool false) (congrArg Value.bool (decide_eq_false hc)) ?_
                  refine HL_known (t := 92) (v := .bool false) (congrArg Value.bool (decide_eq_false hc)) ?_
                  refine s_skip ?_
                  refine s_skip ?_
                  refine s_rd (v := (Value.bool false)) (r_pick rfl rfl (fun h => by cases h) (fun _ => rfl)) ?_
                  refine HL_nil ?_
                  refine HC_condF rfl ?_
                  refine HC_exit ?_
                  show b6J2 v_22 v_26 v_30 v_32 R _ _
                  exact ⟨h8, h9, h11, h12, h⟩
            · skip
              refine HC_seq ?_
              refine HC_region ?_
              refine s_rd (v := (Value.int .i64 (0 : Int))) (r_assign rfl rfl) ?_
              refine HL_nil ?_
              refine HC_block ?_
              obtain ⟨I2, m2, hI0, hr⟩ := h
              refine HC_loop (fun m2 E F => ∃ i_14 : Int, E 1 = (Sl.v vm_1) ∧ E 2 = (Value.int .i64 k_2) ∧ E 8 = (Value.pointer v_22) ∧ E 9 = (Sl.v v_26) ∧ E 11 = (Value.pointer v_30) ∧ E 12 = (Value.pointer v_32) ∧ E 13 = (Sl.v v_58) ∧ E 14 = (Value.int .i64 i_14) ∧ I2 m2 i_14 F) m2 ⟨_, rfl, rfl, rfl, rfl, rfl, rfl, rfl, rfl, hI0⟩ ?_
              clear hI0; rintro m2 E F ⟨i_14, h1, h2, h8, h9, h11, h12, h13, h14, hI⟩
              have h := hr m2 i_14 F hI
              clear hr hI
              unfold b6L2 at h
              refine HC_seq ?_
              refine HC_seq ?_
              refine HC_region ?_
              refine s_rd (v := (Value.int .i64 i_14)) (r_move rfl h14) ?_
              refine s_rd (v := (Value.bool (decide (i_14 < (256 : Int))))) (r_lss rfl rfl rfl) ?_
              refine HL_nil ?_
              refine HC_cond (t := (decide (i_14 < (256 : Int)))) rfl (fun hc => ?_) (fun hc => ?_)
              · replace h := h.1 (of_decide_eq_true hc)
                clear hc
                refine HC_skip ?_
                refine HC_seq ?_
                refine HC_block ?_
                refine HC_seq ?_
                refine HC_region ?_
                refine s_rd (v := (Sl.v v_26)) (r_move rfl h9) ?_
                refine s_rd (v := (Value.int .i64 i_14)) (r_move rfl h14) ?_
                obtain ⟨a65_, hb65, hl65, hu65, h⟩ := h
                refine s_rd (v := (Value.pointer (some (Addr.add a65_ (Int.toNat i_14 * 1))))) (w_indexAddr rfl rfl underlying26 sz5 hb65 hl65 hu65) ?_
                obtain ⟨v_66, hc66, h⟩ := h
                refine s_rd (v := (Value.int .u8 v_66)) (r_load1 rfl rfl underlying5 rfl hc66) ?_
                refine s_rd (v := (Value.int .u8 v_66)) (r_assign rfl rfl) ?_
                refine HL_nil ?_
                refine HC_seqJ (b6J3 (fun i_14 F => ∃ m', m' < m2 ∧ I2 m' i_14 F) vm_1 k_2 v_22 v_26 v_30 v_32 v_58 i_14 R) ?_ ?_
                · clear h; rintro E F ⟨want_15, h1, h2, h8, h9, h11, h12, h13, h14, h15, h⟩
                  unfold b6j3 at h
                  refine HC_seq ?_
                  refine HC_region ?_
                  refine s_rd (v := (Value.int .i64 i_14)) (r_move rfl h14) ?_
                  refine s_rd (v := (Sl.v v_58)) (r_move rfl h13) ?_
                  refine s_rd (v := (Value.int .i64 (v_58.len : Int))) (r_lenSl rfl rfl underlying26) ?_
                  refine s_rd (v := (Value.bool (decide ((v_58.len : Int) ≤ i_14)))) (r_geq rfl rfl rfl) ?_
                  refine s_rd (v := (Value.bool (decide ((v_58.len : Int) ≤ i_14)))) (r_move rfl rfl) ?_
                  by_cases hc : (v_58.len : Int) ≤ i_14
                  · replace h := h.1 hc
                    refine HL_known (t := 79) (v := .bool true) (congrArg Value.bool (decide_eq_true hc)) ?_
                    refine HL_known (t := 80) (v := .bool true) (congrArg Value.bool (decide_eq_true hc)) ?_
                    refine s_skip ?_
                    refine s_skip ?_
                    refine s_skip ?_
                    refine s_skip ?_
                    refine s_skip ?_
                    refine s_skip ?_
                    refine s_rd (v := (Value.bool true)) (r_pick rfl rfl (fun _ => rfl) (fun h => by cases h)) ?_
                    refine HL_nil ?_
                    refine HC_condT rfl ?_
                    refine HC_seq ?_
                    refine HC_region ?_
                    refine s_rd (v := (Value.bool false)) (r_assign rfl rfl) ?_
                    refine HL_nil ?_
                    exact HC_ret (show endQ prog f6 R .ret _ _ from ⟨_, res1 rfl (rv_tmp rfl), h⟩)
                  · replace h := h.2 hc
                    refine HL_known (t := 79) (v := .bool false) (congrArg Value.bool (decide_eq_false hc)) ?_
                    refine HL_known (t := 80) (v := .bool false) (congrArg Value.bool (decide_eq_false hc)) ?_
                    refine s_rd (v := (Sl.v v_58)) (r_move rfl h13) ?_
                    refine s_rd (v := (Value.int .i64 i_14)) (r_move rfl h14) ?_
                    obtain ⟨a83_, hb83, hl83, hu83, h⟩ := h
                    refine s_rd (v := (Value.pointer (some (Addr.add a83_ (Int.toNat i_14 * 1))))) (w_indexAddr rfl rfl underlying26 sz5 hb83 hl83 hu83) ?_
                    obtain ⟨v_84, hc84, h⟩ := h
                    refine s_rd (v := (Value.int .u8 v_84)) (r_load1 rfl rfl underlying5 rfl hc84) ?_
                    refine s_rd (v := (Value.int .u8 want_15)) (r_move rfl h15) ?_
                    refine s_rd (v := (Value.bool (decide (v_84 ≠ want_15)))) (w_neq rfl rfl) ?_
                    refine s_rd (v := (Value.bool (decide (v_84 ≠ want_15)))) (r_pick rfl rfl (fun h => by cases h) (fun _ => rfl)) ?_
                    refine HL_nil ?_
                    refine HC_cond (t := (decide (v_84 ≠ want_15))) rfl (fun hc => ?_) (fun hc => ?_)
                    · replace h := h.1 (of_decide_eq_true hc)
                      clear hc
                      refine HC_seq ?_
                      refine HC_region ?_
                      refine s_rd (v := (Value.bool false)) (r_assign rfl rfl) ?_
                      refine HL_nil ?_
                      exact HC_ret (show endQ prog f6 R .ret _ _ from ⟨_, res1 rfl (rv_tmp rfl), h⟩)
                    · replace h := h.2 (of_decide_eq_false hc)
                      clear hc
                      refine HC_skip ?_
                      refine HC_region ?_
                      refine s_rd (v := (Value.int .i64 i_14)) (r_move rfl h14) ?_
                      refine s_rd (v := (Value.int .i64 (IntKind.i64.wrap (i_14 + (1 : Int))))) (r_add rfl rfl rfl) ?_
                      refine s_rd (v := (Value.int .i64 (IntKind.i64.wrap (i_14 + (1 : Int))))) (r_assign rfl rfl) ?_
                      refine HL_nil ?_
                      obtain ⟨m', hm, h⟩ := h
                      exact ⟨m', hm, _, h1, h2, h8, h9, h11, h12, h13, rfl, h⟩
                · skip
                  refine HC_seq ?_
                  refine HC_region ?_
                  refine s_rd (v := (Value.int .i64 i_14)) (r_move rfl h14) ?_
                  refine s_rd (v := (Value.int .i64 (IntKind.i64.wrap (Int.tdiv i_14 (64 : Int))))) (r_quo rfl rfl rfl (by decide)) ?_
                  refine s_rd (v := (Value.bool (decide ((IntKind.i64.wrap (Int.tdiv i_14 (64 : Int))) = (2 : Int))))) (w_eql rfl rfl) ?_
                  refine s_rd (v := (Value.bool (decide ((IntKind.i64.wrap (Int.tdiv i_14 (64 : Int))) = (2 : Int))))) (r_move rfl rfl) ?_
                  by_cases hc : (IntKind.i64.wrap (Int.tdiv i_14 (64 : Int))) = (2 : Int)
                  · replace h := h.1 hc
                    refine HL_known (t := 69) (v := .bool true) (congrArg Value.bool (decide_eq_true hc)) ?_
                    refine HL_known (t := 70) (v := .bool true) (congrArg Value.bool (decide_eq_true hc)) ?_
                    refine s_rd (v := (Value.int .i64 i_14)) (r_move rfl h14) ?_
                    refine s_rd (v := (Value.int .i64 (Int.tmod i_14 (64 : Int)))) (r_rem rfl rfl rfl (by decide)) ?_
                    refine s_rd (v := (Value.int .i64 k_2)) (r_move rfl h2) ?_
                    refine s_rd (v := (Value.bool (decide ((Int.tmod i_14 (64 : Int)) < k_2)))) (r_lss rfl rfl rfl) ?_
                    refine s_rd (v := (Value.bool (decide ((Int.tmod i_14 (64 : Int)) < k_2)))) (r_pick rfl rfl (fun _ => rfl) (fun h => by cases h)) ?_
                    refine HL_nil ?_
                    refine HC_cond (t := (decide ((Int.tmod i_14 (64 : Int)) < k_2))) rfl (fun hc => ?_) (fun hc => ?_)
                    · replace h := h.1 (of_decide_eq_true hc)
                      clear hc
                      refine HC_region ?_
                      refine s_rd (v := (Value.int .u8 (200 : Int))) (r_assign rfl rfl) ?_
                      refine HL_nil ?_
                      show b6J3 (fun i_14 F => ∃ m', m' < m2 ∧ I2 m' i_14 F) vm_1 k_2 v_22 v_26 v_30 v_32 v_58 i_14 R _ _
                      exact ⟨_, h1, h2, h8, h9, h11, h12, h13, h14, rfl, h⟩
                    · replace h := h.2 (of_decide_eq_false hc)
                      clear hc
                      refine HC_skip ?_
                      show b6J3 (fun i_14 F => ∃ m', m' < m2 ∧ I2 m' i_14 F) vm_1 k_2 v_22 v_26 v_30 v_32 v_58 i_14 R _ _
                      exact ⟨_, h1, h2, h8, h9, h11, h12, h13, h14, rfl, h⟩
                  · replace h := h.2 hc
                    refine HL_known (t := 69) (v := .bool false) (congrArg Value.bool (decide_eq_false hc)) ?_
                    refine HL_known (t := 70) (v := .bool false) (congrArg Value.bool (decide_eq_false hc)) ?_
                    refine s_skip ?_
                    refine s_skip ?_
                    refine s_skip ?_
                    refine s_skip ?_
                    refine s_rd (v := (Value.bool false)) (r_pick rfl rfl (fun h => by cases h) (fun _ => rfl)) ?_
                    refine HL_nil ?_
                    refine HC_condF rfl ?_
                    refine HC_skip ?_
                    show b6J3 (fun i_14 F => ∃ m', m' < m2 ∧ I2 m' i_14 F) vm_1 k_2 v_22 v_26 v_30 v_32 v_58 i_14 R _ _
                    exact ⟨_, h1, h2, h8, h9, h11, h12, h13, h14, rfl, h⟩
              · replace h := h.2 (of_decide_eq_false hc)
                clear hc
                refine HC_exit ?_
                show b6J1 vm_1 v_22 v_26 v_30 v_32 R _ _
                exact ⟨h1, h8, h9, h11, h12, h⟩

/- 7 koine.koinelaw34.DiskFuse -/
def b7j1 (v_22 : Option Addr) (v_24 : Option Addr) (R : Value → PH → Prop) (F : PH) : Prop :=
  Spec prog 12 #[(Value.pointer v_22)] F fun v F => ∃ v_143 : Sl, v = (Sl.v v_143) ∧
  Spec prog 12 #[(Value.pointer v_24)] F fun v F => ∃ v_145 : Sl, v = (Sl.v v_145) ∧
  Spec prog 18 #[(Sl.v v_143), (Sl.v v_145)] F fun v F => ∃ v_146 : Bool, v = (Value.bool v_146) ∧
  R (Value.bool v_146) F
abbrev b7J1 (v_22 : Option Addr) (v_24 : Option Addr) (R : Value → PH → Prop) (E : En) (F : PH) : Prop := E 6 = (Value.pointer v_22) ∧ E 7 = (Value.pointer v_24) ∧ b7j1 v_22 v_24 R F
def b7j2 (N1 : Int → Int → PH → Prop) (v_17 : Sl) (v_19 : Sl) (v_22 : Option Addr) (v_24 : Option Addr) (v_28 : Int) (i_10 : Int) (done_9_1 : Int) (R : Value → PH → Prop) (F : PH) : Prop :=
  N1 done_9_1 (IntKind.i64.wrap (i_10 + (1 : Int))) F
abbrev b7J2 (N1 : Int → Int → PH → Prop) (v_17 : Sl) (v_19 : Sl) (v_22 : Option Addr) (v_24 : Option Addr) (v_28 : Int) (i_10 : Int) (R : Value → PH → Prop) (E : En) (F : PH) : Prop := ∃ done_9_1 : Int, E 4 = (Sl.v v_17) ∧ E 5 = (Sl.v v_19) ∧ E 6 = (Value.pointer v_22) ∧ E 7 = (Value.pointer v_24) ∧ E 8 = (Value.int .i64 (IntKind.i64.wrap ((1 : Int) + (Int.tmod (IntKind.i64.wrap v_28) (8 : Int))))) ∧ E 9 = (Value.int .i64 done_9_1) ∧ E 10 = (Value.int .i64 i_10) ∧ b7j2 N1 v_17 v_19 v_22 v_24 v_28 i_10 done_9_1 R F
def b7j3 (N1 : Int → Int → PH → Prop) (v_17 : Sl) (v_19 : Sl) (v_22 : Option Addr) (v_24 : Option Addr) (v_28 : Int) (done_9 : Int) (i_10 : Int) (v_50 : Int) (e_12 : Int) (R : Value → PH → Prop) (F : PH) : Prop :=
  (((IntKind.i64.wrap (done_9 + (1 : Int))) = (IntKind.i64.wrap ((1 : Int) + (Int.tmod (IntKind.i64.wrap v_28) (8 : Int)))) →
    Spec prog 19 #[(Value.pointer v_24), (Sl.v v_19)] F fun v F => v = Value.tuple #[] ∧
    Spec prog 20 #[(Value.pointer v_24)] F fun v F => v = Value.tuple #[] ∧
    ((e_12 ≠ (340 : Int) →
      R (Value.bool false) F) ∧
    (¬ (e_12 ≠ (340 : Int)) →
      Spec prog 15 #[(Value.int .u8 (1 : Int))] F fun v F => ∃ v_90 : Sl, v = (Sl.v v_90) ∧
      Spec prog 14 #[(Value.pointer v_22), (Value.int .i64 (0 : Int)), (Sl.v v_90)] F fun v F => ∃ v_91 : Int, v = (Value.int .i64 v_91) ∧
      ((v_91 ≠ (340 : Int) →
        R (Value.bool false) F) ∧
      (¬ (v_91 ≠ (340 : Int)) →
        Spec prog 17 #[(Value.pointer v_22)] F fun v F => ∃ v_96 : Int, v = (Value.int .i64 v_96) ∧
        ((v_96 ≠ (340 : Int) →
          R (Value.bool false) F) ∧
        (¬ (v_96 ≠ (340 : Int)) →
          Spec prog 13 #[(Value.pointer v_22)] F fun v F => ∃ v_101 : Int, v = (Value.int .i64 v_101) ∧
          ((v_101 ≠ (0 : Int) →
            R (Value.bool false) F) ∧
          (¬ (v_101 ≠ (0 : Int)) →
            Spec prog 20 #[(Value.pointer v_22)] F fun v F => v = Value.tuple #[] ∧
            Spec prog 12 #[(Value.pointer v_22)] F fun v F => ∃ v_107 : Sl, v = (Sl.v v_107) ∧
            Spec prog 12 #[(Value.pointer v_24)] F fun v F => ∃ v_109 : Sl, v = (Sl.v v_109) ∧
            Spec prog 18 #[(Sl.v v_107), (Sl.v v_109)] F fun v F => ∃ v_110 : Bool, v = (Value.bool v_110) ∧
            ((v_110 = true →
              Spec prog 15 #[(Value.int .u8 (1 : Int))] F fun v F => ∃ v_113 : Sl, v = (Sl.v v_113) ∧
              Spec prog 14 #[(Value.pointer v_22), (Value.int .i64 (0 : Int)), (Sl.v v_113)] F fun v F => ∃ v_114 : Int, v = (Value.int .i64 v_114) ∧
              ((v_114 = (0 : Int) →
                Spec prog 17 #[(Value.pointer v_22)] F fun v F => ∃ v_119 : Int, v = (Value.int .i64 v_119) ∧
                R (Value.bool (decide (v_119 = (0 : Int)))) F) ∧
              (¬ (v_114 = (0 : Int)) →
                R (Value.bool false) F))) ∧
            (v_110 = false →
              R (Value.bool false) F))))))))))) ∧
  (¬ ((IntKind.i64.wrap (done_9 + (1 : Int))) = (IntKind.i64.wrap ((1 : Int) + (Int.tmod (IntKind.i64.wrap v_28) (8 : Int))))) →
    ((e_12 ≠ (0 : Int) →
      R (Value.bool false) F) ∧
    (¬ (e_12 ≠ (0 : Int)) →
      ∃ a126_ : Addr, v_17.base = some a126_ ∧ 0 ≤ i_10 ∧ i_10 < (v_17.len : Int) ∧
      ∃ v_128 : Int, F.cell (Addr.add a126_ (Int.toNat i_10 * 5)) = some (Value.int .u8 v_128) ∧
      (((Int.tmod v_128 (10 : Int)) = (4 : Int) →
        Spec prog 17 #[(Value.pointer v_24)] F fun v F => ∃ v_132 : Int, v = (Value.int .i64 v_132) ∧
        b7j2 N1 v_17 v_19 v_22 v_24 v_28 i_10 (IntKind.i64.wrap (done_9 + (1 : Int))) R F) ∧
      (¬ ((Int.tmod v_128 (10 : Int)) = (4 : Int)) →
        ∃ a137_ : Addr, v_17.base = some a137_ ∧ 0 ≤ i_10 ∧ i_10 < (v_17.len : Int) ∧
        ∃ v_139 : Int, F.cell (Addr.add (Addr.add a137_ (Int.toNat i_10 * 5)) 2) = some (Value.int .u8 v_139) ∧
        Spec prog 15 #[(Value.int .u8 v_139)] F fun v F => ∃ v_140 : Sl, v = (Sl.v v_140) ∧
        Spec prog 14 #[(Value.pointer v_24), (Value.int .i64 (Int.tmod (IntKind.i64.wrap ((Int.tmod v_50 (4 : Int)) + (4 : Int))) (4 : Int))), (Sl.v v_140)] F fun v F => ∃ v_141 : Int, v = (Value.int .i64 v_141) ∧
        b7j2 N1 v_17 v_19 v_22 v_24 v_28 i_10 (IntKind.i64.wrap (done_9 + (1 : Int))) R F))))))
abbrev b7J3 (N1 : Int → Int → PH → Prop) (v_17 : Sl) (v_19 : Sl) (v_22 : Option Addr) (v_24 : Option Addr) (v_28 : Int) (done_9 : Int) (i_10 : Int) (v_50 : Int) (R : Value → PH → Prop) (E : En) (F : PH) : Prop := ∃ e_12 : Int, E 4 = (Sl.v v_17) ∧ E 5 = (Sl.v v_19) ∧ E 6 = (Value.pointer v_22) ∧ E 7 = (Value.pointer v_24) ∧ E 8 = (Value.int .i64 (IntKind.i64.wrap ((1 : Int) + (Int.tmod (IntKind.i64.wrap v_28) (8 : Int))))) ∧ E 9 = (Value.int .i64 done_9) ∧ E 10 = (Value.int .i64 i_10) ∧ E 11 = (Value.int .i64 (Int.tmod (IntKind.i64.wrap ((Int.tmod v_50 (4 : Int)) + (4 : Int))) (4 : Int))) ∧ E 12 = (Value.int .i64 e_12) ∧ b7j3 N1 v_17 v_19 v_22 v_24 v_28 done_9 i_10 v_50 e_12 R F
def b7L1 (N1 : Int → Int → PH → Prop) (v_17 : Sl) (v_19 : Sl) (v_22 : Option Addr) (v_24 : Option Addr) (v_28 : Int) (R : Value → PH → Prop) (done_9 : Int) (i_10 : Int) (F : PH) : Prop :=
  ((i_10 < (v_17.len : Int) →
    ((i_10 < (12 : Int) →
      ∃ a48_ : Addr, v_17.base = some a48_ ∧ 0 ≤ i_10 ∧ i_10 < (v_17.len : Int) ∧
      ∃ v_50 : Int, F.cell (Addr.add (Addr.add a48_ (Int.toNat i_10 * 5)) 1) = some (Value.int .i64 v_50) ∧
      Spec prog 14 #[(Value.pointer v_22), (Value.int .i64 (Int.tmod (IntKind.i64.wrap ((Int.tmod v_50 (4 : Int)) + (4 : Int))) (4 : Int))), (Sl.v Sl.nil)] F fun v F => ∃ v_56 : Int, v = (Value.int .i64 v_56) ∧
      ((v_56 ≠ (1 : Int) →
        R (Value.bool false) F) ∧
      (¬ (v_56 ≠ (1 : Int)) →
        ∃ a60_ : Addr, v_17.base = some a60_ ∧ 0 ≤ i_10 ∧ i_10 < (v_17.len : Int) ∧
        ∃ v_62 : Int, F.cell (Addr.add a60_ (Int.toNat i_10 * 5)) = some (Value.int .u8 v_62) ∧
        (((Int.tmod v_62 (10 : Int)) = (4 : Int) →
          Spec prog 17 #[(Value.pointer v_22)] F fun v F => ∃ v_66 : Int, v = (Value.int .i64 v_66) ∧
          b7j3 N1 v_17 v_19 v_22 v_24 v_28 done_9 i_10 v_50 v_66 R F) ∧
        (¬ ((Int.tmod v_62 (10 : Int)) = (4 : Int)) →
          ∃ a71_ : Addr, v_17.base = some a71_ ∧ 0 ≤ i_10 ∧ i_10 < (v_17.len : Int) ∧
          ∃ v_73 : Int, F.cell (Addr.add (Addr.add a71_ (Int.toNat i_10 * 5)) 2) = some (Value.int .u8 v_73) ∧
          Spec prog 15 #[(Value.int .u8 v_73)] F fun v F => ∃ v_74 : Sl, v = (Sl.v v_74) ∧
          Spec prog 14 #[(Value.pointer v_22), (Value.int .i64 (Int.tmod (IntKind.i64.wrap ((Int.tmod v_50 (4 : Int)) + (4 : Int))) (4 : Int))), (Sl.v v_74)] F fun v F => ∃ v_75 : Int, v = (Value.int .i64 v_75) ∧
          b7j3 N1 v_17 v_19 v_22 v_24 v_28 done_9 i_10 v_50 v_75 R F))))) ∧
    (¬ (i_10 < (12 : Int)) →
      b7j1 v_22 v_24 R F))) ∧
  (¬ (i_10 < (v_17.len : Int)) →
    b7j1 v_22 v_24 R F))
def b7 (x_0 : Array Value) (R : Value → PH → Prop) (F : PH) : Prop :=
  ∀ b1, F b1 = none → atF (F.set b1 (.cells x_0 58)) fun F =>
  Spec prog 10 #[] F fun v F => ∃ v_13 : Bool, v = (Value.bool v_13) ∧
  (((!v_13) = true →
    R (Value.bool false) F) ∧
  ((!v_13) = false →
    ∃ v_17 : Sl, F.cell (Addr.mk b1 1 none) = some (Sl.v v_17) ∧
    ∃ v_19 : Sl, F.cell (Addr.mk b1 3 none) = some (Sl.v v_19) ∧
    ∃ v_21 : Sl, F.cell (Addr.mk b1 0 none) = some (Sl.v v_21) ∧
    Spec prog 11 #[(Sl.v v_21)] F fun v F => ∃ v_22 : Option Addr, v = (Value.pointer v_22) ∧
    Spec prog 27 #[(Value.pointer v_22)] F fun v F => ∃ v_24 : Option Addr, v = (Value.pointer v_24) ∧
    (((v_24.isNone) = true →
      R (Value.bool false) F) ∧
    ((v_24.isNone) = false →
      ∃ v_28 : Int, F.cell (Addr.mk b1 2 none) = some (Value.int .u8 v_28) ∧
      Spec prog 29 #[(Value.pointer v_22), (Value.int .i64 (IntKind.i64.wrap ((1 : Int) + (Int.tmod (IntKind.i64.wrap v_28) (8 : Int))))), (Sl.v v_19)] F fun v F => v = Value.tuple #[] ∧
      (∃ (I1 : Nat → Int → Int → PH → Prop) (m1 : Nat), I1 m1 (0 : Int) (0 : Int) F ∧ ∀ m1 done_9 i_10 F, I1 m1 done_9 i_10 F →
        b7L1 (fun done_9 i_10 F => ∃ m', m' < m1 ∧ I1 m' done_9 i_10 F) v_17 v_19 v_22 v_24 v_28 R done_9 i_10 F)))))
theorem c7 {x_0 : Array Value} {R : Value → PH → Prop} {F : PH} (h : b7 x_0 R F) : Spec prog 7 #[(Value.agg x_0)] F R := by
  refine spec_of (args := [(Value.agg x_0)]) func7 rfl ntmps7 rfl ?_
  unfold b7 at h
  refine HC_seq ?_
  refine HC_region ?_
  refine s_ef (k_box (cs := x_0) rfl rfl ?_)
  intro b1 hf_b1
  replace h := atE (h b1 hf_b1)
  refine s_rd (v := (Value.bool false)) (r_assign rfl rfl) ?_
  refine HL_nil ?_
  refine HC_seq ?_
  refine HC_region ?_
  refine s_ef (k_call (vs := []) cb10 evN (h.mono ?_))
  clear h; rintro v F ⟨v_13, rfl, h⟩
  refine s_rd (v := (Value.bool v_13)) (r_assign rfl rfl) ?_
  refine HL_nil ?_
  refine HC_seq ?_
  refine HC_seq ?_
  refine HC_region ?_
  refine s_rd (v := (Value.bool v_13)) (r_move rfl rfl) ?_
  refine s_rd (v := (Value.bool (!v_13))) (r_not rfl rfl) ?_
  refine HL_nil ?_
  refine HC_cond (t := (!v_13)) rfl (fun hc => ?_) (fun hc => ?_)
  · replace h := h.1 hc
    clear hc
    refine HC_seq ?_
    refine HC_region ?_
    refine s_rd (v := (Value.bool false)) (r_assign rfl rfl) ?_
    refine HL_nil ?_
    exact HC_ret (show endQ prog f7 R .ret _ _ from ⟨_, res1 rfl (rv_tmp rfl), h⟩)
  · replace h := h.2 hc
    clear hc
    refine HC_skip ?_
    refine HC_seq ?_
    refine HC_region ?_
    refine s_rd (v := (Value.pointer (some (Addr.mk b1 1 none)))) (w_fieldAddr (a' := (Addr.mk b1 1 none)) rfl underlying58 rfl rfl sz22 rfl rfl) ?_
    obtain ⟨v_17, hc17, h⟩ := h
    refine s_rd (v := (Sl.v v_17)) (r_load1 rfl rfl underlying22 rfl hc17) ?_
    refine s_rd (v := (Sl.v v_17)) (r_assign rfl rfl) ?_
    refine HL_nil ?_
    refine HC_seq ?_
    refine HC_region ?_
    refine s_rd (v := (Value.pointer (some (Addr.mk b1 3 none)))) (w_fieldAddr (a' := (Addr.mk b1 3 none)) rfl underlying58 rfl rfl sz37 rfl rfl) ?_
    obtain ⟨v_19, hc19, h⟩ := h
    refine s_rd (v := (Sl.v v_19)) (r_load1 rfl rfl underlying37 rfl hc19) ?_
    refine s_rd (v := (Sl.v v_19)) (r_assign rfl rfl) ?_
    refine HL_nil ?_
    refine HC_seq ?_
    refine HC_region ?_
    refine s_rd (v := (Value.pointer (some (Addr.mk b1 0 none)))) (w_fieldAddr (a' := (Addr.mk b1 0 none)) rfl underlying58 rfl rfl sz22 rfl rfl) ?_
    obtain ⟨v_21, hc21, h⟩ := h
    refine s_rd (v := (Sl.v v_21)) (r_load1 rfl rfl underlying22 rfl hc21) ?_
    refine s_ef (k_call (vs := [(Sl.v v_21)]) cb11 (evC rfl evN) (h.mono ?_))
    clear h; rintro v F ⟨v_22, rfl, h⟩
    refine s_rd (v := (Value.pointer v_22)) (r_assign rfl rfl) ?_
    refine HL_nil ?_
    refine HC_seq ?_
    refine HC_region ?_
    refine s_rd (v := (Value.pointer v_22)) (r_move rfl rfl) ?_
    refine s_ef (k_call (vs := [(Value.pointer v_22)]) cb27 (evC rfl evN) (h.mono ?_))
    clear h; rintro v F ⟨v_24, rfl, h⟩
    refine s_rd (v := (Value.pointer v_24)) (r_assign rfl rfl) ?_
    refine HL_nil ?_
    refine HC_seq ?_
    refine HC_seq ?_
    refine HC_region ?_
    refine s_rd (v := (Value.pointer v_24)) (r_move rfl rfl) ?_
    refine s_rd (v := (Value.bool (v_24.isNone))) (r_eqlNil rfl rfl rfl underlying24) ?_
    refine HL_nil ?_
    refine HC_cond (t := (v_24.isNone)) rfl (fun hc => ?_) (fun hc => ?_)
    · replace h := h.1 hc
      clear hc
      refine HC_seq ?_
      refine HC_region ?_
      refine s_rd (v := (Value.bool false)) (r_assign rfl rfl) ?_
      refine HL_nil ?_
      exact HC_ret (show endQ prog f7 R .ret _ _ from ⟨_, res1 rfl (rv_tmp rfl), h⟩)
    · replace h := h.2 hc
      clear hc
      refine HC_skip ?_
      refine HC_seq ?_
      refine HC_region ?_
      refine s_rd (v := (Value.pointer (some (Addr.mk b1 2 none)))) (w_fieldAddr (a' := (Addr.mk b1 2 none)) rfl underlying58 rfl rfl sz5 rfl rfl) ?_
      obtain ⟨v_28, hc28, h⟩ := h
      refine s_rd (v := (Value.int .u8 v_28)) (r_load1 rfl rfl underlying5 rfl hc28) ?_
      refine s_rd (v := (Value.int .i64 (IntKind.i64.wrap v_28))) (r_convInt rfl rfl underlying5 underlying3) ?_
      refine s_rd (v := (Value.int .i64 (Int.tmod (IntKind.i64.wrap v_28) (8 : Int)))) (r_rem rfl rfl rfl (by decide)) ?_
      refine s_rd (v := (Value.int .i64 (IntKind.i64.wrap ((1 : Int) + (Int.tmod (IntKind.i64.wrap v_28) (8 : Int)))))) (r_add rfl rfl rfl) ?_
      refine s_rd (v := (Value.int .i64 (IntKind.i64.wrap ((1 : Int) + (Int.tmod (IntKind.i64.wrap v_28) (8 : Int)))))) (r_assign rfl rfl) ?_
      refine HL_nil ?_
      refine HC_seq ?_
      refine HC_region ?_
      refine s_rd (v := (Value.pointer v_22)) (r_move rfl rfl) ?_
      refine s_rd (v := (Value.int .i64 (IntKind.i64.wrap ((1 : Int) + (Int.tmod (IntKind.i64.wrap v_28) (8 : Int)))))) (r_move rfl rfl) ?_
      refine s_rd (v := (Sl.v v_19)) (r_move rfl rfl) ?_
      refine s_ef (k_call (vs := [(Value.pointer v_22), (Value.int .i64 (IntKind.i64.wrap ((1 : Int) + (Int.tmod (IntKind.i64.wrap v_28) (8 : Int))))), (Sl.v v_19)]) cb29 (evC rfl (evC rfl (evC rfl evN))) (h.mono ?_))
      clear h; rintro v F ⟨rfl, h⟩
      refine HL_nil ?_
      refine HC_seq ?_
      refine HC_region ?_
      refine s_rd (v := (Value.int .i64 (0 : Int))) (r_assign rfl rfl) ?_
      refine HL_nil ?_
      refine HC_seqJ (b7J1 v_22 v_24 R) ?_ ?_
      · clear h; rintro E F ⟨h6, h7, h⟩
        unfold b7j1 at h
        refine HC_seq ?_
        refine HC_region ?_
        refine s_rd (v := (Value.pointer v_22)) (r_move rfl h6) ?_
        refine s_ef (k_call (vs := [(Value.pointer v_22)]) cb12 (evC rfl evN) (h.mono ?_))
        clear h; rintro v F ⟨v_143, rfl, h⟩
        refine s_rd (v := (Value.pointer v_24)) (r_move rfl h7) ?_
        refine s_ef (k_call (vs := [(Value.pointer v_24)]) cb12 (evC rfl evN) (h.mono ?_))
        clear h; rintro v F ⟨v_145, rfl, h⟩
        refine s_ef (k_call (vs := [(Sl.v v_143), (Sl.v v_145)]) cb18 (evC rfl (evC rfl evN)) (h.mono ?_))
        clear h; rintro v F ⟨v_146, rfl, h⟩
        refine s_rd (v := (Value.bool v_146)) (r_assign rfl rfl) ?_
        refine HL_nil ?_
        exact HC_ret (show endQ prog f7 R .ret _ _ from ⟨_, res1 rfl (rv_tmp rfl), h⟩)
      · skip
        refine HC_seq ?_
        refine HC_region ?_
        refine s_rd (v := (Value.int .i64 (0 : Int))) (r_assign rfl rfl) ?_
        refine HL_nil ?_
        refine HC_block ?_
        obtain ⟨I1, m1, hI0, hr⟩ := h
        refine HC_loop (fun m1 E F => ∃ done_9 : Int, ∃ i_10 : Int, E 4 = (Sl.v v_17) ∧ E 5 = (Sl.v v_19) ∧ E 6 = (Value.pointer v_22) ∧ E 7 = (Value.pointer v_24) ∧ E 8 = (Value.int .i64 (IntKind.i64.wrap ((1 : Int) + (Int.tmod (IntKind.i64.wrap v_28) (8 : Int))))) ∧ E 9 = (Value.int .i64 done_9) ∧ E 10 = (Value.int .i64 i_10) ∧ I1 m1 done_9 i_10 F) m1 ⟨_, _, rfl, rfl, rfl, rfl, rfl, rfl, rfl, hI0⟩ ?_
        clear hI0; rintro m1 E F ⟨done_9, i_10, h4, h5, h6, h7, h8, h9, h10, hI⟩
        have h := hr m1 done_9 i_10 F hI
        clear hr hI
        unfold b7L1 at h
        refine HC_seq ?_
        refine HC_seq ?_
        refine HC_region ?_
        refine s_rd (v := (Value.int .i64 i_10)) (r_move rfl h10) ?_
        refine s_rd (v := (Sl.v v_17)) (r_move rfl h4) ?_
        refine s_rd (v := (Value.int .i64 (v_17.len : Int))) (r_lenSl rfl rfl underlying22) ?_
        refine s_rd (v := (Value.bool (decide (i_10 < (v_17.len : Int))))) (r_lss rfl rfl rfl) ?_
        refine s_rd (v := (Value.bool (decide (i_10 < (v_17.len : Int))))) (r_move rfl rfl) ?_
        by_cases hc : i_10 < (v_17.len : Int)
        · replace h := h.1 hc
          refine HL_known (t := 39) (v := .bool true) (congrArg Value.bool (decide_eq_true hc)) ?_
          refine HL_known (t := 40) (v := .bool true) (congrArg Value.bool (decide_eq_true hc)) ?_
          refine s_rd (v := (Value.int .i64 i_10)) (r_move rfl h10) ?_
          refine s_rd (v := (Value.bool (decide (i_10 < (12 : Int))))) (r_lss rfl rfl rfl) ?_
          refine s_rd (v := (Value.bool (decide (i_10 < (12 : Int))))) (r_pick rfl rfl (fun _ => rfl) (fun h => by cases h)) ?_
          refine HL_nil ?_
          refine HC_cond (t := (decide (i_10 < (12 : Int)))) rfl (fun hc => ?_) (fun hc => ?_)
          · replace h := h.1 (of_decide_eq_true hc)
            clear hc
            refine HC_skip ?_
            refine HC_seqJ (b7J2 (fun done_9 i_10 F => ∃ m', m' < m1 ∧ I1 m' done_9 i_10 F) v_17 v_19 v_22 v_24 v_28 i_10 R) ?_ ?_
            · clear h; rintro E F ⟨done_9_1, h4, h5, h6, h7, h8, h9, h10, h⟩
              unfold b7j2 at h
              refine HC_region ?_
              refine s_rd (v := (Value.int .i64 i_10)) (r_move rfl h10) ?_
              refine s_rd (v := (Value.int .i64 (IntKind.i64.wrap (i_10 + (1 : Int))))) (r_add rfl rfl rfl) ?_
              refine s_rd (v := (Value.int .i64 (IntKind.i64.wrap (i_10 + (1 : Int))))) (r_assign rfl rfl) ?_
              refine HL_nil ?_
              obtain ⟨m', hm, h⟩ := h
              exact ⟨m', hm, _, _, h4, h5, h6, h7, h8, h9, rfl, h⟩
            · skip
              refine HC_block ?_
              refine HC_seq ?_
              refine HC_region ?_
              refine s_rd (v := (Sl.v v_17)) (r_move rfl h4) ?_
              refine s_rd (v := (Value.int .i64 i_10)) (r_move rfl h10) ?_
              obtain ⟨a48_, hb48, hl48, hu48, h⟩ := h
              refine s_rd (v := (Value.pointer (some (Addr.add a48_ (Int.toNat i_10 * 5))))) (w_indexAddr rfl rfl underlying22 sz40 hb48 hl48 hu48) ?_
              refine s_rd (v := (Value.pointer (some (Addr.add (Addr.add a48_ (Int.toNat i_10 * 5)) 1)))) (w_fieldAddr (a' := (Addr.add (Addr.add a48_ (Int.toNat i_10 * 5)) 1)) rfl underlying40 rfl rfl sz3 rfl rfl) ?_
              obtain ⟨v_50, hc50, h⟩ := h
              refine s_rd (v := (Value.int .i64 v_50)) (r_load1 rfl rfl underlying3 rfl hc50) ?_
              refine s_rd (v := (Value.int .i64 (Int.tmod v_50 (4 : Int)))) (r_rem rfl rfl rfl (by decide)) ?_
              refine s_rd (v := (Value.int .i64 (IntKind.i64.wrap ((Int.tmod v_50 (4 : Int)) + (4 : Int))))) (r_add rfl rfl rfl) ?_
              refine s_rd (v := (Value.int .i64 (Int.tmod (IntKind.i64.wrap ((Int.tmod v_50 (4 : Int)) + (4 : Int))) (4 : Int)))) (r_rem rfl rfl rfl (by decide)) ?_
              refine s_rd (v := (Value.int .i64 (Int.tmod (IntKind.i64.wrap ((Int.tmod v_50 (4 : Int)) + (4 : Int))) (4 : Int)))) (r_assign rfl rfl) ?_
              refine HL_nil ?_
              refine HC_seq ?_
              refine HC_seq ?_
              refine HC_region ?_
              refine s_rd (v := (Value.pointer v_22)) (r_move rfl h6) ?_
              refine s_rd (v := (Value.int .i64 (Int.tmod (IntKind.i64.wrap ((Int.tmod v_50 (4 : Int)) + (4 : Int))) (4 : Int)))) (r_move rfl rfl) ?_
              refine s_ef (k_call (vs := [(Value.pointer v_22), (Value.int .i64 (Int.tmod (IntKind.i64.wrap ((Int.tmod v_50 (4 : Int)) + (4 : Int))) (4 : Int))), (Sl.v Sl.nil)]) cb14 (evC rfl (evC rfl (evC rfl evN))) (h.mono ?_))
              clear h; rintro v F ⟨v_56, rfl, h⟩
              refine s_rd (v := (Value.bool (decide (v_56 ≠ (1 : Int))))) (w_neq rfl rfl) ?_
              refine HL_nil ?_
              refine HC_cond (t := (decide (v_56 ≠ (1 : Int)))) rfl (fun hc => ?_) (fun hc => ?_)
              · replace h := h.1 (of_decide_eq_true hc)
                clear hc
                refine HC_seq ?_
                refine HC_region ?_
                refine s_rd (v := (Value.bool false)) (r_assign rfl rfl) ?_
                refine HL_nil ?_
                exact HC_ret (show endQ prog f7 R .ret _ _ from ⟨_, res1 rfl (rv_tmp rfl), h⟩)
              · replace h := h.2 (of_decide_eq_false hc)
                clear hc
                refine HC_skip ?_
                refine HC_seq ?_
                refine HC_region ?_
                refine s_rd (v := (Value.int .i64 (0 : Int))) (r_assign rfl rfl) ?_
                refine HL_nil ?_
                refine HC_seqJ (b7J3 (fun done_9 i_10 F => ∃ m', m' < m1 ∧ I1 m' done_9 i_10 F) v_17 v_19 v_22 v_24 v_28 done_9 i_10 v_50 R) ?_ ?_
                · clear h; rintro E F ⟨e_12, h4, h5, h6, h7, h8, h9, h10, h11, h12, h⟩
                  unfold b7j3 at h
                  refine HC_seq ?_
                  refine HC_region ?_
                  refine s_rd (v := (Value.int .i64 done_9)) (r_move rfl h9) ?_
                  refine s_rd (v := (Value.int .i64 (IntKind.i64.wrap (done_9 + (1 : Int))))) (r_add rfl rfl rfl) ?_
                  refine s_rd (v := (Value.int .i64 (IntKind.i64.wrap (done_9 + (1 : Int))))) (r_assign rfl rfl) ?_
                  refine HL_nil ?_
                  refine HC_seq ?_
                  refine HC_seq ?_
                  refine HC_region ?_
                  refine s_rd (v := (Value.int .i64 (IntKind.i64.wrap (done_9 + (1 : Int))))) (r_move rfl rfl) ?_
                  refine s_rd (v := (Value.int .i64 (IntKind.i64.wrap ((1 : Int) + (Int.tmod (IntKind.i64.wrap v_28) (8 : Int)))))) (r_move rfl h8) ?_
                  refine s_rd (v := (Value.bool (decide ((IntKind.i64.wrap (done_9 + (1 : Int))) = (IntKind.i64.wrap ((1 : Int) + (Int.tmod (IntKind.i64.wrap v_28) (8 : Int)))))))) (w_eql rfl rfl) ?_
                  refine HL_nil ?_
                  refine HC_cond (t := (decide ((IntKind.i64.wrap (done_9 + (1 : Int))) = (IntKind.i64.wrap ((1 : Int) + (Int.tmod (IntKind.i64.wrap v_28) (8 : Int))))))) rfl (fun hc => ?_) (fun hc => ?_)
                  · replace h := h.1 (of_decide_eq_true hc)
                    clear hc
                    refine HC_seq ?_
                    refine HC_region ?_
                    refine s_rd (v := (Value.pointer v_24)) (r_move rfl h7) ?_
                    refine s_rd (v := (Sl.v v_19)) (r_move rfl h5) ?_
                    refine s_ef (k_call (vs := [(Value.pointer v_24), (Sl.v v_19)]) cb19 (evC rfl (evC rfl evN)) (h.mono ?_))
                    clear h; rintro v F ⟨rfl, h⟩
                    refine HL_nil ?_
                    refine HC_seq ?_
                    refine HC_region ?_
                    refine s_rd (v := (Value.pointer v_24)) (r_move rfl h7) ?_
                    refine s_ef (k_call (vs := [(Value.pointer v_24)]) cb20 (evC rfl evN) (h.mono ?_))
                    clear h; rintro v F ⟨rfl, h⟩
                    refine HL_nil ?_
                    refine HC_seq ?_
                    refine HC_seq ?_
                    refine HC_region ?_
                    refine s_rd (v := (Value.int .i64 e_12)) (r_move rfl h12) ?_
                    refine s_rd (v := (Value.bool (decide (e_12 ≠ (340 : Int))))) (w_neq rfl rfl) ?_
                    refine s_rd (v := (Value.bool (decide (e_12 ≠ (340 : Int))))) (r_move rfl rfl) ?_
                    by_cases hc : e_12 ≠ (340 : Int)
                    · replace h := h.1 hc
                      refine HL_known (t := 87) (v := .bool true) (congrArg Value.bool (decide_eq_true hc)) ?_
                      refine HL_known (t := 88) (v := .bool true) (congrArg Value.bool (decide_eq_true hc)) ?_
                      refine s_skip ?_
                      refine s_skip ?_
                      refine s_skip ?_
                      refine s_skip ?_
                      refine s_rd (v := (Value.bool true)) (r_pick rfl rfl (fun _ => rfl) (fun h => by cases h)) ?_
                      refine s_rd (v := (Value.bool true)) (r_move rfl rfl) ?_
                      refine s_skip ?_
                      refine s_skip ?_
                      refine s_skip ?_
                      refine s_rd (v := (Value.bool true)) (r_pick rfl rfl (fun _ => rfl) (fun h => by cases h)) ?_
                      refine s_rd (v := (Value.bool true)) (r_move rfl rfl) ?_
                      refine s_skip ?_
                      refine s_skip ?_
                      refine s_skip ?_
                      refine s_rd (v := (Value.bool true)) (r_pick rfl rfl (fun _ => rfl) (fun h => by cases h)) ?_
                      refine HL_nil ?_
                      refine HC_condT rfl ?_
                      refine HC_seq ?_
                      refine HC_region ?_
                      refine s_rd (v := (Value.bool false)) (r_assign rfl rfl) ?_
                      refine HL_nil ?_
                      exact HC_ret (show endQ prog f7 R .ret _ _ from ⟨_, res1 rfl (rv_tmp rfl), h⟩)
                    · replace h := h.2 hc
                      refine HL_known (t := 87) (v := .bool false) (congrArg Value.bool (decide_eq_false hc)) ?_
                      refine HL_known (t := 88) (v := .bool false) (congrArg Value.bool (decide_eq_false hc)) ?_
                      refine s_rd (v := (Value.pointer v_22)) (r_move rfl h6) ?_
                      refine s_ef (k_call (vs := [(Value.int .u8 (1 : Int))]) cb15 (evC rfl evN) (h.mono ?_))
                      clear h; rintro v F ⟨v_90, rfl, h⟩
                      refine s_ef (k_call (vs := [(Value.pointer v_22), (Value.int .i64 (0 : Int)), (Sl.v v_90)]) cb14 (evC rfl (evC rfl (evC rfl evN))) (h.mono ?_))
                      clear h; rintro v F ⟨v_91, rfl, h⟩
                      refine s_rd (v := (Value.bool (decide (v_91 ≠ (340 : Int))))) (w_neq rfl rfl) ?_
                      refine s_rd (v := (Value.bool (decide (v_91 ≠ (340 : Int))))) (r_pick rfl rfl (fun h => by cases h) (fun _ => rfl)) ?_
                      refine s_rd (v := (Value.bool (decide (v_91 ≠ (340 : Int))))) (r_move rfl rfl) ?_
                      by_cases hc : v_91 ≠ (340 : Int)
                      · replace h := h.1 hc
                        refine HL_known (t := 92) (v := .bool true) (congrArg Value.bool (decide_eq_true hc)) ?_
                        refine HL_known (t := 93) (v := .bool true) (congrArg Value.bool (decide_eq_true hc)) ?_
                        refine HL_known (t := 94) (v := .bool true) (congrArg Value.bool (decide_eq_true hc)) ?_
                        refine s_skip ?_
                        refine s_skip ?_
                        refine s_skip ?_
                        refine s_rd (v := (Value.bool true)) (r_pick rfl rfl (fun _ => rfl) (fun h => by cases h)) ?_
                        refine s_rd (v := (Value.bool true)) (r_move rfl rfl) ?_
                        refine s_skip ?_
                        refine s_skip ?_
                        refine s_skip ?_
                        refine s_rd (v := (Value.bool true)) (r_pick rfl rfl (fun _ => rfl) (fun h => by cases h)) ?_
                        refine HL_nil ?_
                        refine HC_condT rfl ?_
                        refine HC_seq ?_
                        refine HC_region ?_
                        refine s_rd (v := (Value.bool false)) (r_assign rfl rfl) ?_
                        refine HL_nil ?_
                        exact HC_ret (show endQ prog f7 R .ret _ _ from ⟨_, res1 rfl (rv_tmp rfl), h⟩)
                      · replace h := h.2 hc
                        refine HL_known (t := 92) (v := .bool false) (congrArg Value.bool (decide_eq_false hc)) ?_
                        refine HL_known (t := 93) (v := .bool false) (congrArg Value.bool (decide_eq_false hc)) ?_
                        refine HL_known (t := 94) (v := .bool false) (congrArg Value.bool (decide_eq_false hc)) ?_
                        refine s_rd (v := (Value.pointer v_22)) (r_move rfl h6) ?_
                        refine s_ef (k_call (vs := [(Value.pointer v_22)]) cb17 (evC rfl evN) (h.mono ?_))
                        clear h; rintro v F ⟨v_96, rfl, h⟩
                        refine s_rd (v := (Value.bool (decide (v_96 ≠ (340 : Int))))) (w_neq rfl rfl) ?_
                        refine s_rd (v := (Value.bool (decide (v_96 ≠ (340 : Int))))) (r_pick rfl rfl (fun h => by cases h) (fun _ => rfl)) ?_
                        refine s_rd (v := (Value.bool (decide (v_96 ≠ (340 : Int))))) (r_move rfl rfl) ?_
                        by_cases hc : v_96 ≠ (340 : Int)
                        · replace h := h.1 hc
                          refine HL_known (t := 97) (v := .bool true) (congrArg Value.bool (decide_eq_true hc)) ?_
                          refine HL_known (t := 98) (v := .bool true) (congrArg Value.bool (decide_eq_true hc)) ?_
                          refine HL_known (t := 99) (v := .bool true) (congrArg Value.bool (decide_eq_true hc)) ?_
                          refine s_skip ?_
                          refine s_skip ?_
                          refine s_skip ?_
                          refine s_rd (v := (Value.bool true)) (r_pick rfl rfl (fun _ => rfl) (fun h => by cases h)) ?_
                          refine HL_nil ?_
                          refine HC_condT rfl ?_
                          refine HC_seq ?_
                          refine HC_region ?_
                          refine s_rd (v := (Value.bool false)) (r_assign rfl rfl) ?_
                          refine HL_nil ?_
                          exact HC_ret (show endQ prog f7 R .ret _ _ from ⟨_, res1 rfl (rv_tmp rfl), h⟩)
                        · replace h := h.2 hc
                          refine HL_known (t := 97) (v := .bool false) (congrArg Value.bool (decide_eq_false hc)) ?_
                          refine HL_known (t := 98) (v := .bool false) (congrArg Value.bool (decide_eq_false hc)) ?_
                          refine HL_known (t := 99) (v := .bool false) (congrArg Value.bool (decide_eq_false hc)) ?_
                          refine s_rd (v := (Value.pointer v_22)) (r_move rfl h6) ?_
                          refine s_ef (k_call (vs := [(Value.pointer v_22)]) cb13 (evC rfl evN) (h.mono ?_))
                          clear h; rintro v F ⟨v_101, rfl, h⟩
                          refine s_rd (v := (Value.bool (decide (v_101 ≠ (0 : Int))))) (w_neq rfl rfl) ?_
                          refine s_rd (v := (Value.bool (decide (v_101 ≠ (0 : Int))))) (r_pick rfl rfl (fun h => by cases h) (fun _ => rfl)) ?_
                          refine HL_nil ?_
                          refine HC_cond (t := (decide (v_101 ≠ (0 : Int)))) rfl (fun hc => ?_) (fun hc => ?_)
                          · replace h := h.1 (of_decide_eq_true hc)
                            clear hc
                            refine HC_seq ?_
                            refine HC_region ?_
                            refine s_rd (v := (Value.bool false)) (r_assign rfl rfl) ?_
                            refine HL_nil ?_
                            exact HC_ret (show endQ prog f7 R .ret _ _ from ⟨_, res1 rfl (rv_tmp rfl), h⟩)
                          · replace h := h.2 (of_decide_eq_false hc)
                            clear hc
                            refine HC_skip ?_
                            refine HC_seq ?_
                            refine HC_region ?_
                            refine s_rd (v := (Value.pointer v_22)) (r_move rfl h6) ?_
                            refine s_ef (k_call (vs := [(Value.pointer v_22)]) cb20 (evC rfl evN) (h.mono ?_))
                            clear h; rintro v F ⟨rfl, h⟩
                            refine HL_nil ?_
                            refine HC_seq ?_
                            refine HC_region ?_
                            refine s_rd (v := (Value.pointer v_22)) (r_move rfl h6) ?_
                            refine s_ef (k_call (vs := [(Value.pointer v_22)]) cb12 (evC rfl evN) (h.mono ?_))
                            clear h; rintro v F ⟨v_107, rfl, h⟩
                            refine s_rd (v := (Value.pointer v_24)) (r_move rfl h7) ?_
                            refine s_ef (k_call (vs := [(Value.pointer v_24)]) cb12 (evC rfl evN) (h.mono ?_))
                            clear h; rintro v F ⟨v_109, rfl, h⟩
                            refine s_ef (k_call (vs := [(Sl.v v_107), (Sl.v v_109)]) cb18 (evC rfl (evC rfl evN)) (h.mono ?_))
                            clear h; rintro v F ⟨v_110, rfl, h⟩
                            refine s_rd (v := (Value.bool v_110)) (r_move rfl rfl) ?_
                            by_cases hc : v_110 = true
                            · replace h := h.1 hc
                              refine HL_known (t := 110) (v := .bool true) (congrArg Value.bool hc) ?_
                              refine HL_known (t := 111) (v := .bool true) (congrArg Value.bool hc) ?_
                              refine s_rd (v := (Value.pointer v_22)) (r_move rfl h6) ?_
                              refine s_ef (k_call (vs := [(Value.int .u8 (1 : Int))]) cb15 (evC rfl evN) (h.mono ?_))
                              clear h; rintro v F ⟨v_113, rfl, h⟩
                              refine s_ef (k_call (vs := [(Value.pointer v_22), (Value.int .i64 (0 : Int)), (Sl.v v_113)]) cb14 (evC rfl (evC rfl (evC rfl evN))) (h.mono ?_))
                              clear h; rintro v F ⟨v_114, rfl, h⟩
                              refine s_rd (v := (Value.bool (decide (v_114 = (0 : Int))))) (w_eql rfl rfl) ?_
                              refine s_rd (v := (Value.bool (decide (v_114 = (0 : Int))))) (r_pick rfl rfl (fun _ => rfl) (fun h => by cases h)) ?_
                              refine s_rd (v := (Value.bool (decide (v_114 = (0 : Int))))) (r_move rfl rfl) ?_
                              by_cases hc : v_114 = (0 : Int)
                              · replace h := h.1 hc
                                refine HL_known (t := 115) (v := .bool true) (congrArg Value.bool (decide_eq_true hc)) ?_
                                refine HL_known (t := 116) (v := .bool true) (congrArg Value.bool (decide_eq_true hc)) ?_
                                refine HL_known (t := 117) (v := .bool true) (congrArg Value.bool (decide_eq_true hc)) ?_
                                refine s_rd (v := (Value.pointer v_22)) (r_move rfl h6) ?_
                                refine s_ef (k_call (vs := [(Value.pointer v_22)]) cb17 (evC rfl evN) (h.mono ?_))
                                clear h; rintro v F ⟨v_119, rfl, h⟩
                                refine s_rd (v := (Value.bool (decide (v_119 = (0 : Int))))) (w_eql rfl rfl) ?_
                                refine s_rd (v := (Value.bool (decide (v_119 = (0 : Int))))) (r_pick rfl rfl (fun _ => rfl) (fun h => by cases h)) ?_
                                refine s_rd (v := (Value.bool (decide (v_119 = (0 : Int))))) (r_assign rfl rfl) ?_
                                refine HL_nil ?_
                                exact HC_ret (show endQ prog f7 R .ret _ _ from ⟨_, res1 rfl (rv_tmp rfl), h⟩)
                              · replace h := h.2 hc
                                refine HL_known (t := 115) (v := .bool false) (congrArg Value.bool (decide_eq_false hc)) ?_
                                refine HL_known (t := 116) (v := .bool false) (congrArg Value.bool (decide_eq_false hc)) ?_
                                refine HL_known (t := 117) (v := .bool false) (congrArg Value.bool (decide_eq_false hc)) ?_
                                refine s_skip ?_
                                refine s_skip ?_
                                refine s_skip ?_
                                refine s_rd (v := (Value.bool false)) (r_pick rfl rfl (fun h => by cases h) (fun _ => rfl)) ?_
                                refine s_rd (v := (Value.bool false)) (r_assign rfl rfl) ?_
                                refine HL_nil ?_
                                exact HC_ret (show endQ prog f7 R .ret _ _ from ⟨_, res1 rfl (rv_tmp rfl), h⟩)
                            · replace hc := eq_false_of_ne_true hc; replace h := h.2 hc
                              refine HL_known (t := 110) (v := .bool false) (congrArg Value.bool hc) ?_
                              refine HL_known (t := 111) (v := .bool false) (congrArg Value.bool hc) ?_
                              refine s_skip ?_
                              refine s_skip ?_
                              refine s_skip ?_
                              refine s_skip ?_
                              refine s_rd (v := (Value.bool false)) (r_pick rfl rfl (fun h => by cases h) (fun _ => rfl)) ?_
                              refine s_rd (v := (Value.bool false)) (r_move rfl rfl) ?_
                              refine s_skip ?_
                              refine s_skip ?_
                              refine s_skip ?_
                              refine s_rd (v := (Value.bool false)) (r_pick rfl rfl (fun h => by cases h) (fun _ => rfl)) ?_
                              refine s_rd (v := (Value.bool false)) (r_assign rfl rfl) ?_
                              refine HL_nil ?_
                              exact HC_ret (show endQ prog f7 R .ret _ _ from ⟨_, res1 rfl (rv_tmp rfl), h⟩)
                  · replace h := h.2 (of_decide_eq_false hc)
                    clear hc
                    refine HC_skip ?_
                    refine HC_seq ?_
                    refine HC_seq ?_
                    refine HC_region ?_
                    refine s_rd (v := (Value.int .i64 e_12)) (r_move rfl h12) ?_
                    refine s_rd (v := (Value.bool (decide (e_12 ≠ (0 : Int))))) (w_neq rfl rfl) ?_
                    refine HL_nil ?_
                    refine HC_cond (t := (decide (e_12 ≠ (0 : Int)))) rfl (fun hc => ?_) (fun hc => ?_)
                    · replace h := h.1 (of_decide_eq_true hc)
                      clear hc
                      refine HC_seq ?_
                      refine HC_region ?_
                      refine s_rd (v := (Value.bool false)) (r_assign rfl rfl) ?_
                      refine HL_nil ?_
                      exact HC_ret (show endQ prog f7 R .ret _ _ from ⟨_, res1 rfl (rv_tmp rfl), h⟩)
                    · replace h := h.2 (of_decide_eq_false hc)
                      clear hc
                      refine HC_skip ?_
                      refine HC_seq ?_
                      refine HC_region ?_
                      refine s_rd (v := (Sl.v v_17)) (r_move rfl h4) ?_
                      refine s_rd (v := (Value.int .i64 i_10)) (r_move rfl h10) ?_
                      obtain ⟨a126_, hb126, hl126, hu126, h⟩ := h
                      refine s_rd (v := (Value.pointer (some (Addr.add a126_ (Int.toNat i_10 * 5))))) (w_indexAddr rfl rfl underlying22 sz40 hb126 hl126 hu126) ?_
                      refine s_rd (v := (Value.pointer (some (Addr.add a126_ (Int.toNat i_10 * 5))))) (w_fieldAddr (a' := (Addr.add a126_ (Int.toNat i_10 * 5))) rfl underlying40 rfl rfl sz5 rfl rfl) ?_
                      obtain ⟨v_128, hc128, h⟩ := h
                      refine s_rd (v := (Value.int .u8 v_128)) (r_load1 rfl rfl underlying5 rfl hc128) ?_
                      refine s_rd (v := (Value.int .u8 (Int.tmod v_128 (10 : Int)))) (r_rem rfl rfl rfl (by decide)) ?_
                      refine s_rd (v := (Value.bool (decide ((Int.tmod v_128 (10 : Int)) = (4 : Int))))) (w_eql rfl rfl) ?_
                      refine HL_nil ?_
                      refine HC_cond (t := (decide ((Int.tmod v_128 (10 : Int)) = (4 : Int)))) rfl (fun hc => ?_) (fun hc => ?_)
                      · replace h := h.1 (of_decide_eq_true hc)
                        clear hc
                        refine HC_region ?_
                        refine s_rd (v := (Value.pointer v_24)) (r_move rfl h7) ?_
                        refine s_ef (k_call (vs := [(Value.pointer v_24)]) cb17 (evC rfl evN) (h.mono ?_))
                        clear h; rintro v F ⟨v_132, rfl, h⟩
                        refine HL_nil ?_
                        show b7J2 (fun done_9 i_10 F => ∃ m', m' < m1 ∧ I1 m' done_9 i_10 F) v_17 v_19 v_22 v_24 v_28 i_10 R _ _
                        exact ⟨_, h4, h5, h6, h7, h8, rfl, h10, h⟩
                      · replace h := h.2 (of_decide_eq_false hc)
                        clear hc
                        refine HC_region ?_
                        refine s_rd (v := (Value.pointer v_24)) (r_move rfl h7) ?_
                        refine s_rd (v := (Value.int .i64 (Int.tmod (IntKind.i64.wrap ((Int.tmod v_50 (4 : Int)) + (4 : Int))) (4 : Int)))) (r_move rfl h11) ?_
                        refine s_rd (v := (Sl.v v_17)) (r_move rfl h4) ?_
                        refine s_rd (v := (Value.int .i64 i_10)) (r_move rfl h10) ?_
                        obtain ⟨a137_, hb137, hl137, hu137, h⟩ := h
                        refine s_rd (v := (Value.pointer (some (Addr.add a137_ (Int.toNat i_10 * 5))))) (w_indexAddr rfl rfl underlying22 sz40 hb137 hl137 hu137) ?_
                        refine s_rd (v := (Value.pointer (some (Addr.add (Addr.add a137_ (Int.toNat i_10 * 5)) 2)))) (w_fieldAddr (a' := (Addr.add (Addr.add a137_ (Int.toNat i_10 * 5)) 2)) rfl underlying40 rfl rfl sz5 rfl rfl) ?_
                        obtain ⟨v_139, hc139, h⟩ := h
                        refine s_rd (v := (Value.int .u8 v_139)) (r_load1 rfl rfl underlying5 rfl hc139) ?_
                        refine s_ef (k_call (vs := [(Value.int .u8 v_139)]) cb15 (evC rfl evN) (h.mono ?_))
                        clear h; rintro v F ⟨v_140, rfl, h⟩
                        refine s_ef (k_call (vs := [(Value.pointer v_24), (Value.int .i64 (Int.tmod (IntKind.i64.wrap ((Int.tmod v_50 (4 : Int)) + (4 : Int))) (4 : Int))), (Sl.v v_140)]) cb14 (evC rfl (evC rfl (evC rfl evN))) (h.mono ?_))
                        clear h; rintro v F ⟨v_141, rfl, h⟩
                        refine HL_nil ?_
                        show b7J2 (fun done_9 i_10 F => ∃ m', m' < m1 ∧ I1 m' done_9 i_10 F) v_17 v_19 v_22 v_24 v_28 i_10 R _ _
                        exact ⟨_, h4, h5, h6, h7, h8, rfl, h10, h⟩
                · skip
                  refine HC_seq ?_
                  refine HC_region ?_
                  refine s_rd (v := (Sl.v v_17)) (r_move rfl h4) ?_
                  refine s_rd (v := (Value.int .i64 i_10)) (r_move rfl h10) ?_
                  obtain ⟨a60_, hb60, hl60, hu60, h⟩ := h
                  refine s_rd (v := (Value.pointer (some (Addr.add a60_ (Int.toNat i_10 * 5))))) (w_indexAddr rfl rfl underlying22 sz40 hb60 hl60 hu60) ?_
                  refine s_rd (v := (Value.pointer (some (Addr.add a60_ (Int.toNat i_10 * 5))))) (w_fieldAddr (a' := (Addr.add a60_ (Int.toNat i_10 * 5))) rfl underlying40 rfl rfl sz5 rfl rfl) ?_
                  obtain ⟨v_62, hc62, h⟩ := h
                  refine s_rd (v := (Value.int .u8 v_62)) (r_load1 rfl rfl underlying5 rfl hc62) ?_
                  refine s_rd (v := (Value.int .u8 (Int.tmod v_62 (10 : Int)))) (r_rem rfl rfl rfl (by decide)) ?_
                  refine s_rd (v := (Value.bool (decide ((Int.tmod v_62 (10 : Int)) = (4 : Int))))) (w_eql rfl rfl) ?_
                  refine HL_nil ?_
                  refine HC_cond (t := (decide ((Int.tmod v_62 (10 : Int)) = (4 : Int)))) rfl (fun hc => ?_) (fun hc => ?_)
                  · replace h := h.1 (of_decide_eq_true hc)
                    clear hc
                    refine HC_region ?_
                    refine s_rd (v := (Value.pointer v_22)) (r_move rfl h6) ?_
                    refine s_ef (k_call (vs := [(Value.pointer v_22)]) cb17 (evC rfl evN) (h.mono ?_))
                    clear h; rintro v F ⟨v_66, rfl, h⟩
                    refine s_rd (v := (Value.int .i64 v_66)) (r_assign rfl rfl) ?_
                    refine HL_nil ?_
                    show b7J3 (fun done_9 i_10 F => ∃ m', m' < m1 ∧ I1 m' done_9 i_10 F) v_17 v_19 v_22 v_24 v_28 done_9 i_10 v_50 R _ _
                    exact ⟨_, h4, h5, h6, h7, h8, h9, h10, rfl, rfl, h⟩
                  · replace h := h.2 (of_decide_eq_false hc)
                    clear hc
                    refine HC_region ?_
                    refine s_rd (v := (Value.pointer v_22)) (r_move rfl h6) ?_
                    refine s_rd (v := (Value.int .i64 (Int.tmod (IntKind.i64.wrap ((Int.tmod v_50 (4 : Int)) + (4 : Int))) (4 : Int)))) (r_move rfl rfl) ?_
                    refine s_rd (v := (Sl.v v_17)) (r_move rfl h4) ?_
                    refine s_rd (v := (Value.int .i64 i_10)) (r_move rfl h10) ?_
                    obtain ⟨a71_, hb71, hl71, hu71, h⟩ := h
                    refine s_rd (v := (Value.pointer (some (Addr.add a71_ (Int.toNat i_10 * 5))))) (w_indexAddr rfl rfl underlying22 sz40 hb71 hl71 hu71) ?_
                    refine s_rd (v := (Value.pointer (some (Addr.add (Addr.add a71_ (Int.toNat i_10 * 5)) 2)))) (w_fieldAddr (a' := (Addr.add (Addr.add a71_ (Int.toNat i_10 * 5)) 2)) rfl underlying40 rfl rfl sz5 rfl rfl) ?_
                    obtain ⟨v_73, hc73, h⟩ := h
                    refine s_rd (v := (Value.int .u8 v_73)) (r_load1 rfl rfl underlying5 rfl hc73) ?_
                    refine s_ef (k_call (vs := [(Value.int .u8 v_73)]) cb15 (evC rfl evN) (h.mono ?_))
                    clear h; rintro v F ⟨v_74, rfl, h⟩
                    refine s_ef (k_call (vs := [(Value.pointer v_22), (Value.int .i64 (Int.tmod (IntKind.i64.wrap ((Int.tmod v_50 (4 : Int)) + (4 : Int))) (4 : Int))), (Sl.v v_74)]) cb14 (evC rfl (evC rfl (evC rfl evN))) (h.mono ?_))
                    clear h; rintro v F ⟨v_75, rfl, h⟩
                    refine s_rd (v := (Value.int .i64 v_75)) (r_assign rfl rfl) ?_
                    refine HL_nil ?_
                    show b7J3 (fun done_9 i_10 F => ∃ m', m' < m1 ∧ I1 m' done_9 i_10 F) v_17 v_19 v_22 v_24 v_28 done_9 i_10 v_50 R _ _
                    exact ⟨_, h4, h5, h6, h7, h8, h9, h10, rfl, rfl, h⟩
          · replace h := h.2 (of_decide_eq_false hc)
            clear hc
            refine HC_exit ?_
            show b7J1 v_22 v_24 R _ _
            exact ⟨h6, h7, h⟩
        · replace h := h.2 hc
          refine HL_known (t := 39) (v := .bool false) (congrArg Value.bool (decide_eq_false hc)) ?_
          refine HL_known (t := 40) (v := .bool false) (congrArg Value.bool (decide_eq_false hc)) ?_
          refine s_skip ?_
          refine s_skip ?_
          refine s_rd (v := (Value.bool false)) (r_pick rfl rfl (fun h => by cases h) (fun _ => rfl)) ?_
          refine HL_nil ?_
          refine HC_condF rfl ?_
          refine HC_exit ?_
          show b7J1 v_22 v_24 R _ _
          exact ⟨h6, h7, h⟩

/- 8 koine.koinelaw34.DiskCopies -/
def b8j1 (kept_2 : Sl) (v_22 : Option Addr) (v_24 : Sl) (v_26 : Int) (c_11 : Option Addr) (twin_12 : Option Addr) (R : Value → PH → Prop) (F : PH) : Prop :=
  Spec prog 19 #[(Value.pointer c_11), (Sl.v kept_2)] F fun v F => v = Value.tuple #[] ∧
  Spec prog 19 #[(Value.pointer twin_12), (Sl.v kept_2)] F fun v F => v = Value.tuple #[] ∧
  Spec prog 20 #[(Value.pointer c_11)] F fun v F => v = Value.tuple #[] ∧
  Spec prog 20 #[(Value.pointer twin_12)] F fun v F => v = Value.tuple #[] ∧
  Spec prog 12 #[(Value.pointer c_11)] F fun v F => ∃ v_94 : Sl, v = (Sl.v v_94) ∧
  Spec prog 12 #[(Value.pointer twin_12)] F fun v F => ∃ v_96 : Sl, v = (Sl.v v_96) ∧
  Spec prog 18 #[(Sl.v v_94), (Sl.v v_96)] F fun v F => ∃ v_97 : Bool, v = (Value.bool v_97) ∧
  ((v_97 = true →
    Spec prog 12 #[(Value.pointer v_22)] F fun v F => ∃ v_100 : Sl, v = (Sl.v v_100) ∧
    Spec prog 18 #[(Sl.v v_100), (Sl.v v_24)] F fun v F => ∃ v_102 : Bool, v = (Value.bool v_102) ∧
    ((v_102 = true →
      Spec prog 13 #[(Value.pointer v_22)] F fun v F => ∃ v_106 : Int, v = (Value.int .i64 v_106) ∧
      R (Value.bool (decide (v_106 = v_26))) F) ∧
    (v_102 = false →
      R (Value.bool false) F))) ∧
  (v_97 = false →
    R (Value.bool false) F))
abbrev b8J1 (kept_2 : Sl) (v_22 : Option Addr) (v_24 : Sl) (v_26 : Int) (R : Value → PH → Prop) (E : En) (F : PH) : Prop := ∃ c_11 : Option Addr, ∃ twin_12 : Option Addr, E 2 = (Sl.v kept_2) ∧ E 8 = (Value.pointer v_22) ∧ E 9 = (Sl.v v_24) ∧ E 10 = (Value.int .i64 v_26) ∧ E 11 = (Value.pointer c_11) ∧ E 12 = (Value.pointer twin_12) ∧ b8j1 kept_2 v_22 v_24 v_26 c_11 twin_12 R F
def b8L1 (N1 : Option Addr → Option Addr → Int → PH → Prop) (vm_1 : Sl) (kept_2 : Sl) (v_22 : Option Addr) (v_24 : Sl) (v_26 : Int) (R : Value → PH → Prop) (c_11_1 : Option Addr) (twin_12_1 : Option Addr) (i_13 : Int) (F : PH) : Prop :=
  ((i_13 < (vm_1.len : Int) →
    ((i_13 < (20 : Int) →
      ∃ a64_ : Addr, vm_1.base = some a64_ ∧ 0 ≤ i_13 ∧ i_13 < (vm_1.len : Int) ∧
      ∃ v_65 : Array Value, v_65.size = 5 ∧ F.row (Addr.add a64_ (Int.toNat i_13 * 5)) v_65 ∧
      Spec prog 23 #[(Value.pointer c_11_1), (Value.agg v_65)] F fun v F => ∃ v_66 : Option Addr, ∃ v_66_1 : Int, v = (Value.tuple #[(Value.pointer v_66), (Value.int .i64 v_66_1)]) ∧
      ∃ a73_ : Addr, vm_1.base = some a73_ ∧ 0 ≤ i_13 ∧ i_13 < (vm_1.len : Int) ∧
      ∃ v_74 : Array Value, v_74.size = 5 ∧ F.row (Addr.add a73_ (Int.toNat i_13 * 5)) v_74 ∧
      Spec prog 23 #[(Value.pointer twin_12_1), (Value.agg v_74)] F fun v F => ∃ v_75 : Option Addr, ∃ v_75_1 : Int, v = (Value.tuple #[(Value.pointer v_75), (Value.int .i64 v_75_1)]) ∧
      ((v_66_1 ≠ v_75_1 →
        R (Value.bool false) F) ∧
      (¬ (v_66_1 ≠ v_75_1) →
        N1 v_66 v_75 (IntKind.i64.wrap (i_13 + (1 : Int))) F))) ∧
    (¬ (i_13 < (20 : Int)) →
      b8j1 kept_2 v_22 v_24 v_26 c_11_1 twin_12_1 R F))) ∧
  (¬ (i_13 < (vm_1.len : Int)) →
    b8j1 kept_2 v_22 v_24 v_26 c_11_1 twin_12_1 R F))
def b8 (l_0 : Sl) (vm_1 : Sl) (kept_2 : Sl) (R : Value → PH → Prop) (F : PH) : Prop :=
  Spec prog 10 #[] F fun v F => ∃ v_18 : Bool, v = (Value.bool v_18) ∧
  (((!v_18) = true →
    R (Value.bool false) F) ∧
  ((!v_18) = false →
    Spec prog 11 #[(Sl.v l_0)] F fun v F => ∃ v_22 : Option Addr, v = (Value.pointer v_22) ∧
    Spec prog 12 #[(Value.pointer v_22)] F fun v F => ∃ v_24 : Sl, v = (Sl.v v_24) ∧
    Spec prog 13 #[(Value.pointer v_22)] F fun v F => ∃ v_26 : Int, v = (Value.int .i64 v_26) ∧
    Spec prog 27 #[(Value.pointer v_22)] F fun v F => ∃ v_28 : Option Addr, v = (Value.pointer v_28) ∧
    Spec prog 27 #[(Value.pointer v_22)] F fun v F => ∃ v_30 : Option Addr, v = (Value.pointer v_30) ∧
    (((v_28.isNone) = true →
      R (Value.bool false) F) ∧
    ((v_28.isNone) = false →
      (((v_30.isNone) = true →
        R (Value.bool false) F) ∧
      ((v_30.isNone) = false →
        Spec prog 12 #[(Value.pointer v_28)] F fun v F => ∃ v_39 : Sl, v = (Sl.v v_39) ∧
        Spec prog 18 #[(Sl.v v_39), (Sl.v v_24)] F fun v F => ∃ v_41 : Bool, v = (Value.bool v_41) ∧
        (((!v_41) = true →
          R (Value.bool false) F) ∧
        ((!v_41) = false →
          Spec prog 13 #[(Value.pointer v_28)] F fun v F => ∃ v_46 : Int, v = (Value.int .i64 v_46) ∧
          ((v_46 ≠ v_26 →
            R (Value.bool false) F) ∧
          (¬ (v_46 ≠ v_26) →
            (∃ (I1 : Nat → Option Addr → Option Addr → Int → PH → Prop) (m1 : Nat), I1 m1 v_28 v_30 (0 : Int) F ∧ ∀ m1 c_11_1 twin_12_1 i_13 F, I1 m1 c_11_1 twin_12_1 i_13 F →
              b8L1 (fun c_11_1 twin_12_1 i_13 F => ∃ m', m' < m1 ∧ I1 m' c_11_1 twin_12_1 i_13 F) vm_1 kept_2 v_22 v_24 v_26 R c_11_1 twin_12_1 i_13 F)))))))))))
theorem c8 {l_0 : Sl} {vm_1 : Sl} {kept_2 : Sl} {R : Value → PH → Prop} {F : PH} (h : b8 l_0 vm_1 kept_2 R F) : Spec prog 8 #[(Sl.v l_0), (Sl.v vm_1), (Sl.v kept_2)] F R := by
  refine spec_of (args := [(Sl.v l_0), (Sl.v vm_1), (Sl.v kept_2)]) func8 rfl ntmps8 rfl ?_
  unfold b8 at h
  refine HC_seq ?_
  refine HC_region ?_
  refine s_rd (v := (Value.bool false)) (r_assign rfl rfl) ?_
  refine HL_nil ?_
  refine HC_seq ?_
  refine HC_region ?_
  refine s_ef (k_call (vs := []) cb10 evN (h.mono ?_))
  clear h; rintro v F ⟨v_18, rfl, h⟩
  refine s_rd (v := (Value.bool v_18)) (r_assign rfl rfl) ?_
  refine HL_nil ?_
  refine HC_seq ?_
  refine HC_seq ?_
  refine HC_region ?_
  refine s_rd (v := (Value.bool v_18)) (r_move rfl rfl) ?_
  refine s_rd (v := (Value.bool (!v_18))) (r_not rfl rfl) ?_
  refine HL_nil ?_
  refine HC_cond (t := (!v_18)) rfl (fun hc => ?_) (fun hc => ?_)
  · replace h := h.1 hc
    clear hc
    refine HC_seq ?_
    refine HC_region ?_
    refine s_rd (v := (Value.bool false)) (r_assign rfl rfl) ?_
    refine HL_nil ?_
    exact HC_ret (show endQ prog f8 R .ret _ _ from ⟨_, res1 rfl (rv_tmp rfl), h⟩)
  · replace h := h.2 hc
    clear hc
    refine HC_skip ?_
    refine HC_seq ?_
    refine HC_region ?_
    refine s_rd (v := (Sl.v l_0)) (r_move rfl rfl) ?_
    refine s_ef (k_call (vs := [(Sl.v l_0)]) cb11 (evC rfl evN) (h.mono ?_))
    clear h; rintro v F ⟨v_22, rfl, h⟩
    refine s_rd (v := (Value.pointer v_22)) (r_assign rfl rfl) ?_
    refine HL_nil ?_
    refine HC_seq ?_
    refine HC_region ?_
    refine s_rd (v := (Value.pointer v_22)) (r_move rfl rfl) ?_
    refine s_ef (k_call (vs := [(Value.pointer v_22)]) cb12 (evC rfl evN) (h.mono ?_))
    clear h; rintro v F ⟨v_24, rfl, h⟩
    refine s_rd (v := (Sl.v v_24)) (r_assign rfl rfl) ?_
    refine HL_nil ?_
    refine HC_seq ?_
    refine HC_region ?_
    refine s_rd (v := (Value.pointer v_22)) (r_move rfl rfl) ?_
    refine s_ef (k_call (vs := [(Value.pointer v_22)]) cb13 (evC rfl evN) (h.mono ?_))
    clear h; rintro v F ⟨v_26, rfl, h⟩
    refine s_rd (v := (Value.int .i64 v_26)) (r_assign rfl rfl) ?_
    refine HL_nil ?_
    refine HC_seq ?_
    refine HC_region ?_
    refine s_rd (v := (Value.pointer v_22)) (r_move rfl rfl) ?_
    refine s_ef (k_call (vs := [(Value.pointer v_22)]) cb27 (evC rfl evN) (h.mono ?_))
    clear h; rintro v F ⟨v_28, rfl, h⟩
    refine s_rd (v := (Value.pointer v_28)) (r_assign rfl rfl) ?_
    refine HL_nil ?_
    refine HC_seq ?_
    refine HC_region ?_
    refine s_rd (v := (Value.pointer v_22)) (r_move rfl rfl) ?_
    refine s_ef (k_call (vs := [(Value.pointer v_22)]) cb27 (evC rfl evN) (h.mono ?_))
    clear h; rintro v F ⟨v_30, rfl, h⟩
    refine s_rd (v := (Value.pointer v_30)) (r_assign rfl rfl) ?_
    refine HL_nil ?_
    refine HC_seq ?_
    refine HC_seq ?_
    refine HC_region ?_
    refine s_rd (v := (Value.pointer v_28)) (r_move rfl rfl) ?_
    refine s_rd (v := (Value.bool (v_28.isNone))) (r_eqlNil rfl rfl rfl underlying24) ?_
    refine s_rd (v := (Value.bool (v_28.isNone))) (r_move rfl rfl) ?_
    by_cases hc : (v_28.isNone) = true
    · replace h := h.1 hc
      refine HL_known (t := 32) (v := .bool true) (congrArg Value.bool hc) ?_
      refine HL_known (t := 33) (v := .bool true) (congrArg Value.bool hc) ?_
      refine s_skip ?_
      refine s_skip ?_
      refine s_rd (v := (Value.bool true)) (r_pick rfl rfl (fun _ => rfl) (fun h => by cases h)) ?_
      refine s_rd (v := (Value.bool true)) (r_move rfl rfl) ?_
      refine s_skip ?_
      refine s_skip ?_
      refine s_skip ?_
      refine s_skip ?_
      refine s_skip ?_
      refine s_rd (v := (Value.bool true)) (r_pick rfl rfl (fun _ => rfl) (fun h => by cases h)) ?_
      refine s_rd (v := (Value.bool true)) (r_move rfl rfl) ?_
      refine s_skip ?_
      refine s_skip ?_
      refine s_skip ?_
      refine s_skip ?_
      refine s_rd (v := (Value.bool true)) (r_pick rfl rfl (fun _ => rfl) (fun h => by cases h)) ?_
      refine HL_nil ?_
      refine HC_condT rfl ?_
      refine HC_seq ?_
      refine HC_region ?_
      refine s_rd (v := (Value.bool false)) (r_assign rfl rfl) ?_
      refine HL_nil ?_
      exact HC_ret (show endQ prog f8 R .ret _ _ from ⟨_, res1 rfl (rv_tmp rfl), h⟩)
    · replace hc := eq_false_of_ne_true hc; replace h := h.2 hc
      refine HL_known (t := 32) (v := .bool false) (congrArg Value.bool hc) ?_
      refine HL_known (t := 33) (v := .bool false) (congrArg Value.bool hc) ?_
      refine s_rd (v := (Value.pointer v_30)) (r_move rfl rfl) ?_
      refine s_rd (v := (Value.bool (v_30.isNone))) (r_eqlNil rfl rfl rfl underlying24) ?_
      refine s_rd (v := (Value.bool (v_30.isNone))) (r_pick rfl rfl (fun h => by cases h) (fun _ => rfl)) ?_
      refine s_rd (v := (Value.bool (v_30.isNone))) (r_move rfl rfl) ?_
      by_cases hc : (v_30.isNone) = true
      · replace h := h.1 hc
        refine HL_known (t := 35) (v := .bool true) (congrArg Value.bool hc) ?_
        refine HL_known (t := 36) (v := .bool true) (congrArg Value.bool hc) ?_
        refine HL_known (t := 37) (v := .bool true) (congrArg Value.bool hc) ?_
        refine s_skip ?_
        refine s_skip ?_
        refine s_skip ?_
        refine s_skip ?_
        refine s_skip ?_
        refine s_rd (v := (Value.bool true)) (r_pick rfl rfl (fun _ => rfl) (fun h => by cases h)) ?_
        refine s_rd (v := (Value.bool true)) (r_move rfl rfl) ?_
        refine s_skip ?_
        refine s_skip ?_
        refine s_skip ?_
        refine s_skip ?_
        refine s_rd (v := (Value.bool true)) (r_pick rfl rfl (fun _ => rfl) (fun h => by cases h)) ?_
        refine HL_nil ?_
        refine HC_condT rfl ?_
        refine HC_seq ?_
        refine HC_region ?_
        refine s_rd (v := (Value.bool false)) (r_assign rfl rfl) ?_
        refine HL_nil ?_
        exact HC_ret (show endQ prog f8 R .ret _ _ from ⟨_, res1 rfl (rv_tmp rfl), h⟩)
      · replace hc := eq_false_of_ne_true hc; replace h := h.2 hc
        refine HL_known (t := 35) (v := .bool false) (congrArg Value.bool hc) ?_
        refine HL_known (t := 36) (v := .bool false) (congrArg Value.bool hc) ?_
        refine HL_known (t := 37) (v := .bool false) (congrArg Value.bool hc) ?_
        refine s_rd (v := (Value.pointer v_28)) (r_move rfl rfl) ?_
        refine s_ef (k_call (vs := [(Value.pointer v_28)]) cb12 (evC rfl evN) (h.mono ?_))
        clear h; rintro v F ⟨v_39, rfl, h⟩
        refine s_rd (v := (Sl.v v_24)) (r_move rfl rfl) ?_
        refine s_ef (k_call (vs := [(Sl.v v_39), (Sl.v v_24)]) cb18 (evC rfl (evC rfl evN)) (h.mono ?_))
        clear h; rintro v F ⟨v_41, rfl, h⟩
        refine s_rd (v := (Value.bool (!v_41))) (r_not rfl rfl) ?_
        refine s_rd (v := (Value.bool (!v_41))) (r_pick rfl rfl (fun h => by cases h) (fun _ => rfl)) ?_
        refine s_rd (v := (Value.bool (!v_41))) (r_move rfl rfl) ?_
        by_cases hc : (!v_41) = true
        · replace h := h.1 hc
          refine HL_known (t := 42) (v := .bool true) (congrArg Value.bool hc) ?_
          refine HL_known (t := 43) (v := .bool true) (congrArg Value.bool hc) ?_
          refine HL_known (t := 44) (v := .bool true) (congrArg Value.bool hc) ?_
          refine s_skip ?_
          refine s_skip ?_
          refine s_skip ?_
          refine s_skip ?_
          refine s_rd (v := (Value.bool true)) (r_pick rfl rfl (fun _ => rfl) (fun h => by cases h)) ?_
          refine HL_nil ?_
          refine HC_condT rfl ?_
          refine HC_seq ?_
          refine HC_region ?_
          refine s_rd (v := (Value.bool false)) (r_assign rfl rfl) ?_
          refine HL_nil ?_
          exact HC_ret (show endQ prog f8 R .ret _ _ from ⟨_, res1 rfl (rv_tmp rfl), h⟩)
        · replace hc := eq_false_of_ne_true hc; replace h := h.2 hc
          refine HL_known (t := 42) (v := .bool false) (congrArg Value.bool hc) ?_
          refine HL_known (t := 43) (v := .bool false) (congrArg Value.bool hc) ?_
          refine HL_known (t := 44) (v := .bool false) (congrArg Value.bool hc) ?_
          refine s_rd (v := (Value.pointer v_28)) (r_move rfl rfl) ?_
          refine s_ef (k_call (vs := [(Value.pointer v_28)]) cb13 (evC rfl evN) (h.mono ?_))
          clear h; rintro v F ⟨v_46, rfl, h⟩
          refine s_rd (v := (Value.int .i64 v_26)) (r_move rfl rfl) ?_
          refine s_rd (v := (Value.bool (decide (v_46 ≠ v_26)))) (w_neq rfl rfl) ?_
          refine s_rd (v := (Value.bool (decide (v_46 ≠ v_26)))) (r_pick rfl rfl (fun h => by cases h) (fun _ => rfl)) ?_
          refine HL_nil ?_
          refine HC_cond (t := (decide (v_46 ≠ v_26))) rfl (fun hc => ?_) (fun hc => ?_)
          · replace h := h.1 (of_decide_eq_true hc)
            clear hc
            refine HC_seq ?_
            refine HC_region ?_
            refine s_rd (v := (Value.bool false)) (r_assign rfl rfl) ?_
            refine HL_nil ?_
            exact HC_ret (show endQ prog f8 R .ret _ _ from ⟨_, res1 rfl (rv_tmp rfl), h⟩)
          · replace h := h.2 (of_decide_eq_false hc)
            clear hc
            refine HC_skip ?_
            refine HC_seqJ (b8J1 kept_2 v_22 v_24 v_26 R) ?_ ?_
            · clear h; rintro E F ⟨c_11, twin_12, h2, h8, h9, h10, h11, h12, h⟩
              unfold b8j1 at h
              refine HC_seq ?_
              refine HC_region ?_
              refine s_rd (v := (Value.pointer c_11)) (r_move rfl h11) ?_
              refine s_rd (v := (Sl.v kept_2)) (r_move rfl h2) ?_
              refine s_ef (k_call (vs := [(Value.pointer c_11), (Sl.v kept_2)]) cb19 (evC rfl (evC rfl evN)) (h.mono ?_))
              clear h; rintro v F ⟨rfl, h⟩
              refine HL_nil ?_
              refine HC_seq ?_
              refine HC_region ?_
              refine s_rd (v := (Value.pointer twin_12)) (r_move rfl h12) ?_
              refine s_rd (v := (Sl.v kept_2)) (r_move rfl h2) ?_
              refine s_ef (k_call (vs := [(Value.pointer twin_12), (Sl.v kept_2)]) cb19 (evC rfl (evC rfl evN)) (h.mono ?_))
              clear h; rintro v F ⟨rfl, h⟩
              refine HL_nil ?_
              refine HC_seq ?_
              refine HC_region ?_
              refine s_rd (v := (Value.pointer c_11)) (r_move rfl h11) ?_
              refine s_ef (k_call (vs := [(Value.pointer c_11)]) cb20 (evC rfl evN) (h.mono ?_))
              clear h; rintro v F ⟨rfl, h⟩
              refine HL_nil ?_
              refine HC_seq ?_
              refine HC_region ?_
              refine s_rd (v := (Value.pointer twin_12)) (r_move rfl h12) ?_
              refine s_ef (k_call (vs := [(Value.pointer twin_12)]) cb20 (evC rfl evN) (h.mono ?_))
              clear h; rintro v F ⟨rfl, h⟩
              refine HL_nil ?_
              refine HC_seq ?_
              refine HC_region ?_
              refine s_rd (v := (Value.pointer c_11)) (r_move rfl h11) ?_
              refine s_ef (k_call (vs := [(Value.pointer c_11)]) cb12 (evC rfl evN) (h.mono ?_))
              clear h; rintro v F ⟨v_94, rfl, h⟩
              refine s_rd (v := (Value.pointer twin_12)) (r_move rfl h12) ?_
              refine s_ef (k_call (vs := [(Value.pointer twin_12)]) cb12 (evC rfl evN) (h.mono ?_))
              clear h; rintro v F ⟨v_96, rfl, h⟩
              refine s_ef (k_call (vs := [(Sl.v v_94), (Sl.v v_96)]) cb18 (evC rfl (evC rfl evN)) (h.mono ?_))
              clear h; rintro v F ⟨v_97, rfl, h⟩
              refine s_rd (v := (Value.bool v_97)) (r_move rfl rfl) ?_
              by_cases hc : v_97 = true
              · replace h := h.1 hc
                refine HL_known (t := 97) (v := .bool true) (congrArg Value.bool hc) ?_
                refine HL_known (t := 98) (v := .bool true) (congrArg Value.bool hc) ?_
                refine s_rd (v := (Value.pointer v_22)) (r_move rfl h8) ?_
                refine s_ef (k_call (vs := [(Value.pointer v_22)]) cb12 (evC rfl evN) (h.mono ?_))
                clear h; rintro v F ⟨v_100, rfl, h⟩
                refine s_rd (v := (Sl.v v_24)) (r_move rfl h9) ?_
                refine s_ef (k_call (vs := [(Sl.v v_100), (Sl.v v_24)]) cb18 (evC rfl (evC rfl evN)) (h.mono ?_))
                clear h; rintro v F ⟨v_102, rfl, h⟩
                refine s_rd (v := (Value.bool v_102)) (r_pick rfl rfl (fun _ => rfl) (fun h => by cases h)) ?_
                refine s_rd (v := (Value.bool v_102)) (r_move rfl rfl) ?_
                by_cases hc : v_102 = true
                · replace h := h.1 hc
                  refine HL_known (t := 102) (v := .bool true) (congrArg Value.bool hc) ?_
                  refine HL_known (t := 103) (v := .bool true) (congrArg Value.bool hc) ?_
                  refine HL_known (t := 104) (v := .bool true) (congrArg Value.bool hc) ?_
                  refine s_rd (v := (Value.pointer v_22)) (r_move rfl h8) ?_
                  refine s_ef (k_call (vs := [(Value.pointer v_22)]) cb13 (evC rfl evN) (h.mono ?_))
                  clear h; rintro v F ⟨v_106, rfl, h⟩
                  refine s_rd (v := (Value.int .i64 v_26)) (r_move rfl h10) ?_
                  refine s_rd (v := (Value.bool (decide (v_106 = v_26)))) (w_eql rfl rfl) ?_
                  refine s_rd (v := (Value.bool (decide (v_106 = v_26)))) (r_pick rfl rfl (fun _ => rfl) (fun h => by cases h)) ?_
                  refine s_rd (v := (Value.bool (decide (v_106 = v_26)))) (r_assign rfl rfl) ?_
                  refine HL_nil ?_
                  exact HC_ret (show endQ prog f8 R .ret _ _ from ⟨_, res1 rfl (rv_tmp rfl), h⟩)
                · replace hc := eq_false_of_ne_true hc; replace h := h.2 hc
                  refine HL_known (t := 102) (v := .bool false) (congrArg Value.bool hc) ?_
                  refine HL_known (t := 103) (v := .bool false) (congrArg Value.bool hc) ?_
                  refine HL_known (t := 104) (v := .bool false) (congrArg Value.bool hc) ?_
                  refine s_skip ?_
                  refine s_skip ?_
                  refine s_skip ?_
                  refine s_skip ?_
                  refine s_rd (v := (Value.bool false)) (r_pick rfl rfl (fun h => by cases h) (fun _ => rfl)) ?_
                  refine s_rd (v := (Value.bool false)) (r_assign rfl rfl) ?_
                  refine HL_nil ?_
                  exact HC_ret (show endQ prog f8 R .ret _ _ from ⟨_, res1 rfl (rv_tmp rfl), h⟩)
              · replace hc := eq_false_of_ne_true hc; replace h := h.2 hc
                refine HL_known (t := 97) (v := .bool false) (congrArg Value.bool hc) ?_
                refine HL_known (t := 98) (v := .bool false) (congrArg Value.bool hc) ?_
                refine s_skip ?_
                refine s_skip ?_
                refine s_skip ?_
                refine s_skip ?_
                refine s_rd (v := (Value.bool false)) (r_pick rfl rfl (fun h => by cases h) (fun _ => rfl)) ?_
                refine s_rd (v := (Value.bool false)) (r_move rfl rfl) ?_
                refine s_skip ?_
                refine s_skip ?_
                refine s_skip ?_
                refine s_skip ?_
                refine s_rd (v := (Value.bool false)) (r_pick rfl rfl (fun h => by cases h) (fun _ => rfl)) ?_
                refine s_rd (v := (Value.bool false)) (r_assign rfl rfl) ?_
                refine HL_nil ?_
                exact HC_ret (show endQ prog f8 R .ret _ _ from ⟨_, res1 rfl (rv_tmp rfl), h⟩)
            · skip
              refine HC_seq ?_
              refine HC_region ?_
              refine s_rd (v := (Value.int .i64 (0 : Int))) (r_assign rfl rfl) ?_
              refine HL_nil ?_
              refine HC_block ?_
              obtain ⟨I1, m1, hI0, hr⟩ := h
              refine HC_loop (fun m1 E F => ∃ c_11_1 : Option Addr, ∃ twin_12_1 : Option Addr, ∃ i_13 : Int, E 1 = (Sl.v vm_1) ∧ E 2 = (Sl.v kept_2) ∧ E 8 = (Value.pointer v_22) ∧ E 9 = (Sl.v v_24) ∧ E 10 = (Value.int .i64 v_26) ∧ E 11 = (Value.pointer c_11_1) ∧ E 12 = (Value.pointer twin_12_1) ∧ E 13 = (Value.int .i64 i_13) ∧ I1 m1 c_11_1 twin_12_1 i_13 F) m1 ⟨_, _, _, rfl, rfl, rfl, rfl, rfl, rfl, rfl, rfl, hI0⟩ ?_
              clear hI0; rintro m1 E F ⟨c_11_1, twin_12_1, i_13, h1, h2, h8, h9, h10, h11, h12, h13, hI⟩
              have h := hr m1 c_11_1 twin_12_1 i_13 F hI
              clear hr hI
              unfold b8L1 at h
              refine HC_seq ?_
              refine HC_seq ?_
              refine HC_region ?_
              refine s_rd (v := (Value.int .i64 i_13)) (r_move rfl h13) ?_
              refine s_rd (v := (Sl.v vm_1)) (r_move rfl h1) ?_
              refine s_rd (v := (Value.int .i64 (vm_1.len : Int))) (r_lenSl rfl rfl underlying22) ?_
              refine s_rd (v := (Value.bool (decide (i_13 < (vm_1.len : Int))))) (r_lss rfl rfl rfl) ?_
              refine s_rd (v := (Value.bool (decide (i_13 < (vm_1.len : Int))))) (r_move rfl rfl) ?_
              by_cases hc : i_13 < (vm_1.len : Int)
              · replace h := h.1 hc
                refine HL_known (t := 53) (v := .bool true) (congrArg Value.bool (decide_eq_true hc)) ?_
                refine HL_known (t := 54) (v := .bool true) (congrArg Value.bool (decide_eq_true hc)) ?_
                refine s_rd (v := (Value.int .i64 i_13)) (r_move rfl h13) ?_
                refine s_rd (v := (Value.bool (decide (i_13 < (20 : Int))))) (r_lss rfl rfl rfl) ?_
                refine s_rd (v := (Value.bool (decide (i_13 < (20 : Int))))) (r_pick rfl rfl (fun _ => rfl) (fun h => by cases h)) ?_
                refine HL_nil ?_
                refine HC_cond (t := (decide (i_13 < (20 : Int)))) rfl (fun hc => ?_) (fun hc => ?_)
                · replace h := h.1 (of_decide_eq_true hc)
                  clear hc
                  refine HC_skip ?_
                  refine HC_seq ?_
                  refine HC_block ?_
                  refine HC_seq ?_
                  refine HC_region ?_
                  refine s_rd (v := (Value.pointer c_11_1)) (r_move rfl h11) ?_
                  refine s_rd (v := (Sl.v vm_1)) (r_move rfl h1) ?_
                  refine s_rd (v := (Value.int .i64 i_13)) (r_move rfl h13) ?_
                  obtain ⟨a64_, hb64, hl64, hu64, h⟩ := h
                  refine s_rd (v := (Value.pointer (some (Addr.add a64_ (Int.toNat i_13 * 5))))) (w_indexAddr rfl rfl underlying22 sz40 hb64 hl64 hu64) ?_
                  obtain ⟨v_65, hs65, hc65, h⟩ := h
                  refine s_rd (v := (Value.agg v_65)) (w_loadN rfl underlying40 rfl sz40 hs65 hc65) ?_
                  refine s_ef (k_call (vs := [(Value.pointer c_11_1), (Value.agg v_65)]) cb23 (evC rfl (evC rfl evN)) (h.mono ?_))
                  clear h; rintro v F ⟨v_66, v_66_1, rfl, h⟩
                  refine s_rd (v := (Value.tuple #[(Value.pointer v_66), (Value.int .i64 v_66_1)])) (r_move rfl rfl) ?_
                  refine s_rd (v := (Value.pointer v_66)) (r_extract rfl rfl rfl) ?_
                  refine s_rd (v := (Value.int .i64 v_66_1)) (r_extract rfl rfl rfl) ?_
                  refine s_rd (v := (Value.pointer v_66)) (r_assign rfl rfl) ?_
                  refine s_rd (v := (Value.int .i64 v_66_1)) (r_assign rfl rfl) ?_
                  refine HL_nil ?_
                  refine HC_seq ?_
                  refine HC_region ?_
                  refine s_rd (v := (Value.pointer twin_12_1)) (r_move rfl h12) ?_
                  refine s_rd (v := (Sl.v vm_1)) (r_move rfl h1) ?_
                  refine s_rd (v := (Value.int .i64 i_13)) (r_move rfl h13) ?_
                  obtain ⟨a73_, hb73, hl73, hu73, h⟩ := h
                  refine s_rd (v := (Value.pointer (some (Addr.add a73_ (Int.toNat i_13 * 5))))) (w_indexAddr rfl rfl underlying22 sz40 hb73 hl73 hu73) ?_
                  obtain ⟨v_74, hs74, hc74, h⟩ := h
                  refine s_rd (v := (Value.agg v_74)) (w_loadN rfl underlying40 rfl sz40 hs74 hc74) ?_
                  refine s_ef (k_call (vs := [(Value.pointer twin_12_1), (Value.agg v_74)]) cb23 (evC rfl (evC rfl evN)) (h.mono ?_))
                  clear h; rintro v F ⟨v_75, v_75_1, rfl, h⟩
                  refine s_rd (v := (Value.tuple #[(Value.pointer v_75), (Value.int .i64 v_75_1)])) (r_move rfl rfl) ?_
                  refine s_rd (v := (Value.pointer v_75)) (r_extract rfl rfl rfl) ?_
                  refine s_rd (v := (Value.int .i64 v_75_1)) (r_extract rfl rfl rfl) ?_
                  refine s_rd (v := (Value.pointer v_75)) (r_assign rfl rfl) ?_
                  refine s_rd (v := (Value.int .i64 v_75_1)) (r_assign rfl rfl) ?_
                  refine HL_nil ?_
                  refine HC_seq ?_
                  refine HC_region ?_
                  refine s_rd (v := (Value.pointer v_66)) (r_move rfl rfl) ?_
                  refine s_rd (v := (Value.pointer v_66)) (r_assign rfl rfl) ?_
                  refine HL_nil ?_
                  refine HC_seq ?_
                  refine HC_region ?_
                  refine s_rd (v := (Value.pointer v_75)) (r_move rfl rfl) ?_
                  refine s_rd (v := (Value.pointer v_75)) (r_assign rfl rfl) ?_
                  refine HL_nil ?_
                  refine HC_seq ?_
                  refine HC_region ?_
                  refine s_rd (v := (Value.int .i64 v_66_1)) (r_move rfl rfl) ?_
                  refine s_rd (v := (Value.int .i64 v_75_1)) (r_move rfl rfl) ?_
                  refine s_rd (v := (Value.bool (decide (v_66_1 ≠ v_75_1)))) (w_neq rfl rfl) ?_
                  refine HL_nil ?_
                  refine HC_cond (t := (decide (v_66_1 ≠ v_75_1))) rfl (fun hc => ?_) (fun hc => ?_)
                  · replace h := h.1 (of_decide_eq_true hc)
                    clear hc
                    refine HC_seq ?_
                    refine HC_region ?_
                    refine s_rd (v := (Value.bool false)) (r_assign rfl rfl) ?_
                    refine HL_nil ?_
                    exact HC_ret (show endQ prog f8 R .ret _ _ from ⟨_, res1 rfl (rv_tmp rfl), h⟩)
                  · replace h := h.2 (of_decide_eq_false hc)
                    clear hc
                    refine HC_skip ?_
                    refine HC_region ?_
                    refine s_rd (v := (Value.int .i64 i_13)) (r_move rfl h13) ?_
                    refine s_rd (v := (Value.int .i64 (IntKind.i64.wrap (i_13 + (1 : Int))))) (r_add rfl rfl rfl) ?_
                    refine s_rd (v := (Value.int .i64 (IntKind.i64.wrap (i_13 + (1 : Int))))) (r_assign rfl rfl) ?_
                    refine HL_nil ?_
                    obtain ⟨m', hm, h⟩ := h
                    exact ⟨m', hm, _, _, _, h1, h2, h8, h9, h10, rfl, rfl, rfl, h⟩
                · replace h := h.2 (of_decide_eq_false hc)
                  clear hc
                  refine HC_exit ?_
                  show b8J1 kept_2 v_22 v_24 v_26 R _ _
                  exact ⟨_, _, h2, h8, h9, h10, h11, h12, h⟩
              · replace h := h.2 hc
                refine HL_known (t := 53) (v := .bool false) (congrArg Value.bool (decide_eq_false hc)) ?_
                refine HL_known (t := 54) (v := .bool false) (congrArg Value.bool (decide_eq_false hc)) ?_
                refine s_skip ?_
                refine s_skip ?_
                refine s_rd (v := (Value.bool false)) (r_pick rfl rfl (fun h => by cases h) (fun _ => rfl)) ?_
                refine HL_nil ?_
                refine HC_condF rfl ?_
                refine HC_exit ?_
                show b8J1 kept_2 v_22 v_24 v_26 R _ _
                exact ⟨_, _, h2, h8, h9, h10, h11, h12, h⟩

/- 9 koine.koinelaw34.DiskMemory -/
def b9 (l_0 : Sl) (fill_1 : Int) (at_2 : Int) (R : Value → PH → Prop) (F : PH) : Prop :=
  Spec prog 10 #[] F fun v F => ∃ v_24 : Bool, v = (Value.bool v_24) ∧
  (((!v_24) = true →
    R (Value.bool false) F) ∧
  ((!v_24) = false →
    Spec prog 11 #[(Sl.v l_0)] F fun v F => ∃ v_28 : Option Addr, v = (Value.pointer v_28) ∧
    Spec prog 15 #[(Value.int .u8 fill_1)] F fun v F => ∃ v_33 : Sl, v = (Sl.v v_33) ∧
    ∀ b34, F b34 = none → atF (F.set b34 (.cells #[(Value.int .i64 (7 : Int))] 3)) fun F =>
    Spec prog 14 #[(Value.pointer v_28), (Value.int .i64 (Int.tmod (IntKind.i64.wrap at_2) (4 : Int))), (Sl.v v_33)] F fun v F => ∃ v_38 : Int, v = (Value.int .i64 v_38) ∧
    Spec prog 29 #[(Value.pointer v_28), (Value.int .i64 (2 : Int)), (Sl.v (Sl.mk (some (Addr.mk b34 0 none)) 1 1))] F fun v F => v = Value.tuple #[] ∧
    ∃ a43_ : Addr, v_33.base = some a43_ ∧ 0 ≤ (0 : Int) ∧ (0 : Int) < (v_33.len : Int) ∧
    ∃ v_44 : Int, F.cell (Addr.add a43_ (Int.toNat (0 : Int) * 1)) = some (Value.int .u8 v_44) ∧
    ∃ a46_ : Addr, v_33.base = some a46_ ∧ 0 ≤ (0 : Int) ∧ (0 : Int) < (v_33.len : Int) ∧
    ∃ c e, F (Addr.add a46_ (Int.toNat (0 : Int) * 1)).block = some (.cells c e (0, 0)) ∧ (Addr.add a46_ (Int.toNat (0 : Int) * 1)).spot = none ∧ (Addr.add a46_ (Int.toNat (0 : Int) * 1)).off < c.size ∧
    atF (F.set (Addr.add a46_ (Int.toNat (0 : Int) * 1)).block (.cells (c.setIfInBounds (Addr.add a46_ (Int.toNat (0 : Int) * 1)).off (Value.int .u8 (IntKind.u8.wrap (v_44 + (1 : Int))))) e)) fun F =>
    ∃ a48_ : Addr, (Sl.mk (some (Addr.mk b34 0 none)) 1 1).base = some a48_ ∧ 0 ≤ (0 : Int) ∧ (0 : Int) < ((Sl.mk (some (Addr.mk b34 0 none)) 1 1).len : Int) ∧
    ∃ c e, F (Addr.add a48_ (Int.toNat (0 : Int) * 1)).block = some (.cells c e (0, 0)) ∧ (Addr.add a48_ (Int.toNat (0 : Int) * 1)).spot = none ∧ (Addr.add a48_ (Int.toNat (0 : Int) * 1)).off < c.size ∧
    atF (F.set (Addr.add a48_ (Int.toNat (0 : Int) * 1)).block (.cells (c.setIfInBounds (Addr.add a48_ (Int.toNat (0 : Int) * 1)).off (Value.int .i64 (64 : Int))) e)) fun F =>
    Spec prog 16 #[(Value.pointer v_28), (Value.int .i64 (Int.tmod (IntKind.i64.wrap at_2) (4 : Int)))] F fun v F => ∃ v_52 : Sl, ∃ v_52_1 : Int, v = (Value.tuple #[(Sl.v v_52), (Value.int .i64 v_52_1)]) ∧
    ((v_38 ≠ (0 : Int) →
      R (Value.bool false) F) ∧
    (¬ (v_38 ≠ (0 : Int)) →
      ((v_52_1 ≠ (0 : Int) →
        R (Value.bool false) F) ∧
      (¬ (v_52_1 ≠ (0 : Int)) →
        Spec prog 15 #[(Value.int .u8 fill_1)] F fun v F => ∃ v_64 : Sl, v = (Sl.v v_64) ∧
        Spec prog 18 #[(Sl.v v_52), (Sl.v v_64)] F fun v F => ∃ v_65 : Bool, v = (Value.bool v_65) ∧
        (((!v_65) = true →
          R (Value.bool false) F) ∧
        ((!v_65) = false →
          ∃ a69_ : Addr, v_52.base = some a69_ ∧ 0 ≤ (5 : Int) ∧ (5 : Int) < (v_52.len : Int) ∧
          ∃ v_70 : Int, F.cell (Addr.add a69_ (Int.toNat (5 : Int) * 1)) = some (Value.int .u8 v_70) ∧
          ∃ a72_ : Addr, v_52.base = some a72_ ∧ 0 ≤ (5 : Int) ∧ (5 : Int) < (v_52.len : Int) ∧
          ∃ c e, F (Addr.add a72_ (Int.toNat (5 : Int) * 1)).block = some (.cells c e (0, 0)) ∧ (Addr.add a72_ (Int.toNat (5 : Int) * 1)).spot = none ∧ (Addr.add a72_ (Int.toNat (5 : Int) * 1)).off < c.size ∧
          atF (F.set (Addr.add a72_ (Int.toNat (5 : Int) * 1)).block (.cells (c.setIfInBounds (Addr.add a72_ (Int.toNat (5 : Int) * 1)).off (Value.int .u8 (IntKind.u8.wrap (v_70 + (1 : Int))))) e)) fun F =>
          Spec prog 16 #[(Value.pointer v_28), (Value.int .i64 (Int.tmod (IntKind.i64.wrap at_2) (4 : Int)))] F fun v F => ∃ v_76 : Sl, ∃ v_76_1 : Int, v = (Value.tuple #[(Sl.v v_76), (Value.int .i64 v_76_1)]) ∧
          Spec prog 27 #[(Value.pointer v_28)] F fun v F => ∃ v_80 : Option Addr, v = (Value.pointer v_80) ∧
          (((v_80.isNone) = true →
            R (Value.bool false) F) ∧
          ((v_80.isNone) = false →
            Spec prog 15 #[(Value.int .u8 fill_1)] F fun v F => ∃ v_86 : Sl, v = (Sl.v v_86) ∧
            Spec prog 18 #[(Sl.v v_76), (Sl.v v_86)] F fun v F => ∃ v_87 : Bool, v = (Value.bool v_87) ∧
            (((!v_87) = true →
              R (Value.bool false) F) ∧
            ((!v_87) = false →
              Spec prog 17 #[(Value.pointer v_80)] F fun v F => ∃ v_91 : Int, v = (Value.int .i64 v_91) ∧
              Spec prog 17 #[(Value.pointer v_28)] F fun v F => ∃ v_93 : Int, v = (Value.int .i64 v_93) ∧
              Spec prog 16 #[(Value.pointer v_28), (Value.int .i64 (Int.tmod (IntKind.i64.wrap at_2) (4 : Int)))] F fun v F => ∃ v_97 : Sl, ∃ v_97_1 : Int, v = (Value.tuple #[(Sl.v v_97), (Value.int .i64 v_97_1)]) ∧
              (((v_97.len : Int) ≠ (64 : Int) →
                R (Value.bool false) F) ∧
              (¬ ((v_97.len : Int) ≠ (64 : Int)) →
                ∃ a104_ : Addr, v_97.base = some a104_ ∧ 0 ≤ (9 : Int) ∧ (9 : Int) < (v_97.len : Int) ∧
                ∃ v_105 : Int, F.cell (Addr.add a104_ (Int.toNat (9 : Int) * 1)) = some (Value.int .u8 v_105) ∧
                ∃ a107_ : Addr, v_97.base = some a107_ ∧ 0 ≤ (9 : Int) ∧ (9 : Int) < (v_97.len : Int) ∧
                ∃ c e, F (Addr.add a107_ (Int.toNat (9 : Int) * 1)).block = some (.cells c e (0, 0)) ∧ (Addr.add a107_ (Int.toNat (9 : Int) * 1)).spot = none ∧ (Addr.add a107_ (Int.toNat (9 : Int) * 1)).off < c.size ∧
                atF (F.set (Addr.add a107_ (Int.toNat (9 : Int) * 1)).block (.cells (c.setIfInBounds (Addr.add a107_ (Int.toNat (9 : Int) * 1)).off (Value.int .u8 (IntKind.u8.wrap (v_105 + (1 : Int))))) e)) fun F =>
                Spec prog 16 #[(Value.pointer v_28), (Value.int .i64 (Int.tmod (IntKind.i64.wrap at_2) (4 : Int)))] F fun v F => ∃ v_111 : Sl, ∃ v_111_1 : Int, v = (Value.tuple #[(Sl.v v_111), (Value.int .i64 v_111_1)]) ∧
                ((v_91 = (0 : Int) →
                  ((v_93 = (0 : Int) →
                    Spec prog 15 #[(Value.int .u8 fill_1)] F fun v F => ∃ v_123 : Sl, v = (Sl.v v_123) ∧
                    Spec prog 18 #[(Sl.v v_111), (Sl.v v_123)] F fun v F => ∃ v_124 : Bool, v = (Value.bool v_124) ∧
                    R (Value.bool v_124) F) ∧
                  (¬ (v_93 = (0 : Int)) →
                    R (Value.bool false) F))) ∧
                (¬ (v_91 = (0 : Int)) →
                  R (Value.bool false) F))))))))))))))))
theorem c9 {l_0 : Sl} {fill_1 : Int} {at_2 : Int} {R : Value → PH → Prop} {F : PH} (h : b9 l_0 fill_1 at_2 R F) : Spec prog 9 #[(Sl.v l_0), (Value.int .u8 fill_1), (Value.int .u8 at_2)] F R := by
  refine spec_of (args := [(Sl.v l_0), (Value.int .u8 fill_1), (Value.int .u8 at_2)]) func9 rfl ntmps9 rfl ?_
  unfold b9 at h
  refine HC_seq ?_
  refine HC_region ?_
  refine s_rd (v := (Value.bool false)) (r_assign rfl rfl) ?_
  refine HL_nil ?_
  refine HC_seq ?_
  refine HC_region ?_
  refine s_ef (k_call (vs := []) cb10 evN (h.mono ?_))
  clear h; rintro v F ⟨v_24, rfl, h⟩
  refine s_rd (v := (Value.bool v_24)) (r_assign rfl rfl) ?_
  refine HL_nil ?_
  refine HC_seq ?_
  refine HC_seq ?_
  refine HC_region ?_
  refine s_rd (v := (Value.bool v_24)) (r_move rfl rfl) ?_
  refine s_rd (v := (Value.bool (!v_24))) (r_not rfl rfl) ?_
  refine HL_nil ?_
  refine HC_cond (t := (!v_24)) rfl (fun hc => ?_) (fun hc => ?_)
  · replace h := h.1 hc
    clear hc
    refine HC_seq ?_
    refine HC_region ?_
    refine s_rd (v := (Value.bool false)) (r_assign rfl rfl) ?_
    refine HL_nil ?_
    exact HC_ret (show endQ prog f9 R .ret _ _ from ⟨_, res1 rfl (rv_tmp rfl), h⟩)
  · replace h := h.2 hc
    clear hc
    refine HC_skip ?_
    refine HC_seq ?_
    refine HC_region ?_
    refine s_rd (v := (Sl.v l_0)) (r_move rfl rfl) ?_
    refine s_ef (k_call (vs := [(Sl.v l_0)]) cb11 (evC rfl evN) (h.mono ?_))
    clear h; rintro v F ⟨v_28, rfl, h⟩
    refine s_rd (v := (Value.pointer v_28)) (r_assign rfl rfl) ?_
    refine HL_nil ?_
    refine HC_seq ?_
    refine HC_region ?_
    refine s_rd (v := (Value.int .u8 at_2)) (r_move rfl rfl) ?_
    refine s_rd (v := (Value.int .i64 (IntKind.i64.wrap at_2))) (r_convInt rfl rfl underlying5 underlying3) ?_
    refine s_rd (v := (Value.int .i64 (Int.tmod (IntKind.i64.wrap at_2) (4 : Int)))) (r_rem rfl rfl rfl (by decide)) ?_
    refine s_rd (v := (Value.int .i64 (Int.tmod (IntKind.i64.wrap at_2) (4 : Int)))) (r_assign rfl rfl) ?_
    refine HL_nil ?_
    refine HC_seq ?_
    refine HC_region ?_
    refine s_rd (v := (Value.int .u8 fill_1)) (r_move rfl rfl) ?_
    refine s_ef (k_call (vs := [(Value.int .u8 fill_1)]) cb15 (evC rfl evN) (h.mono ?_))
    clear h; rintro v F ⟨v_33, rfl, h⟩
    refine s_rd (v := (Sl.v v_33)) (r_assign rfl rfl) ?_
    refine HL_nil ?_
    refine HC_seq ?_
    refine HC_region ?_
    refine s_ef (k_buildSeq (l := [(Value.int .i64 (7 : Int))]) underlying37 sz3 (by decide) zr3 rfl rfl ⟨rfl, trivial⟩ (evPC rfl evPN) ?_)
    intro b34 hf_b34
    replace h := atE (h b34 hf_b34)
    refine s_rd (v := (Sl.v (Sl.mk (some (Addr.mk b34 0 none)) 1 1))) (r_assign rfl rfl) ?_
    refine HL_nil ?_
    refine HC_seq ?_
    refine HC_region ?_
    refine s_rd (v := (Value.pointer v_28)) (r_move rfl rfl) ?_
    refine s_rd (v := (Value.int .i64 (Int.tmod (IntKind.i64.wrap at_2) (4 : Int)))) (r_move rfl rfl) ?_
    refine s_rd (v := (Sl.v v_33)) (r_move rfl rfl) ?_
    refine s_ef (k_call (vs := [(Value.pointer v_28), (Value.int .i64 (Int.tmod (IntKind.i64.wrap at_2) (4 : Int))), (Sl.v v_33)]) cb14 (evC rfl (evC rfl (evC rfl evN))) (h.mono ?_))
    clear h; rintro v F ⟨v_38, rfl, h⟩
    refine s_rd (v := (Value.int .i64 v_38)) (r_assign rfl rfl) ?_
    refine HL_nil ?_
    refine HC_seq ?_
    refine HC_region ?_
    refine s_rd (v := (Value.pointer v_28)) (r_move rfl rfl) ?_
    refine s_rd (v := (Sl.v (Sl.mk (some (Addr.mk b34 0 none)) 1 1))) (r_move rfl rfl) ?_
    refine s_ef (k_call (vs := [(Value.pointer v_28), (Value.int .i64 (2 : Int)), (Sl.v (Sl.mk (some (Addr.mk b34 0 none)) 1 1))]) cb29 (evC rfl (evC rfl (evC rfl evN))) (h.mono ?_))
    clear h; rintro v F ⟨rfl, h⟩
    refine HL_nil ?_
    refine HC_seq ?_
    refine HC_region ?_
    refine s_rd (v := (Sl.v v_33)) (r_move rfl rfl) ?_
    obtain ⟨a43_, hb43, hl43, hu43, h⟩ := h
    refine s_rd (v := (Value.pointer (some (Addr.add a43_ (Int.toNat (0 : Int) * 1))))) (w_indexAddr rfl rfl underlying26 sz5 hb43 hl43 hu43) ?_
    obtain ⟨v_44, hc44, h⟩ := h
    refine s_rd (v := (Value.int .u8 v_44)) (r_load1 rfl rfl underlying5 rfl hc44) ?_
    refine s_rd (v := (Value.int .u8 (IntKind.u8.wrap (v_44 + (1 : Int))))) (r_add rfl rfl rfl) ?_
    obtain ⟨a46_, hb46, hl46, hu46, h⟩ := h
    refine s_rd (v := (Value.pointer (some (Addr.add a46_ (Int.toNat (0 : Int) * 1))))) (w_indexAddr rfl rfl underlying26 sz5 hb46 hl46 hu46) ?_
    refine s_ef0 (k_store1 (v := (Value.int .u8 (IntKind.u8.wrap (v_44 + (1 : Int))))) rfl rfl sz5 rfl st_int ?_)
    obtain ⟨c, e, hz3, hz4, hz5, h⟩ := h
    refine ⟨c, e, hz3, hz4, hz5, ?_⟩
    replace h := atE h
    refine HL_nil ?_
    refine HC_seq ?_
    refine HC_region ?_
    refine s_rd (v := (Sl.v (Sl.mk (some (Addr.mk b34 0 none)) 1 1))) (r_move rfl rfl) ?_
    obtain ⟨a48_, hb48, hl48, hu48, h⟩ := h
    refine s_rd (v := (Value.pointer (some (Addr.add a48_ (Int.toNat (0 : Int) * 1))))) (w_indexAddr rfl rfl underlying37 sz3 hb48 hl48 hu48) ?_
    refine s_ef0 (k_store1 (v := (Value.int .i64 (64 : Int))) rfl rfl sz3 rfl st_int ?_)
    obtain ⟨c, e, hz3, hz4, hz5, h⟩ := h
    refine ⟨c, e, hz3, hz4, hz5, ?_⟩
    replace h := atE h
    refine HL_nil ?_
    refine HC_seq ?_
    refine HC_region ?_
    refine s_rd (v := (Value.pointer v_28)) (r_move rfl rfl) ?_
    refine s_rd (v := (Value.int .i64 (Int.tmod (IntKind.i64.wrap at_2) (4 : Int)))) (r_move rfl rfl) ?_
    refine s_ef (k_call (vs := [(Value.pointer v_28), (Value.int .i64 (Int.tmod (IntKind.i64.wrap at_2) (4 : Int)))]) cb16 (evC rfl (evC rfl evN)) (h.mono ?_))
    clear h; rintro v F ⟨v_52, v_52_1, rfl, h⟩
    refine s_rd (v := (Value.tuple #[(Sl.v v_52), (Value.int .i64 v_52_1)])) (r_move rfl rfl) ?_
    refine s_rd (v := (Sl.v v_52)) (r_extract rfl rfl rfl) ?_
    refine s_rd (v := (Value.int .i64 v_52_1)) (r_extract rfl rfl rfl) ?_
    refine s_rd (v := (Sl.v v_52)) (r_assign rfl rfl) ?_
    refine s_rd (v := (Value.int .i64 v_52_1)) (r_assign rfl rfl) ?_
    refine HL_nil ?_
    refine HC_seq ?_
    refine HC_seq ?_
    refine HC_region ?_
    refine s_rd (v := (Value.int .i64 v_38)) (r_move rfl rfl) ?_
    refine s_rd (v := (Value.bool (decide (v_38 ≠ (0 : Int))))) (w_neq rfl rfl) ?_
    refine s_rd (v := (Value.bool (decide (v_38 ≠ (0 : Int))))) (r_move rfl rfl) ?_
    by_cases hc : v_38 ≠ (0 : Int)
    · replace h := h.1 hc
      refine HL_known (t := 56) (v := .bool true) (congrArg Value.bool (decide_eq_true hc)) ?_
      refine HL_known (t := 57) (v := .bool true) (congrArg Value.bool (decide_eq_true hc)) ?_
      refine s_skip ?_
      refine s_skip ?_
      refine s_rd (v := (Value.bool true)) (r_pick rfl rfl (fun _ => rfl) (fun h => by cases h)) ?_
      refine s_rd (v := (Value.bool true)) (r_move rfl rfl) ?_
      refine s_skip ?_
      refine s_skip ?_
      refine s_skip ?_
      refine s_skip ?_
      refine s_skip ?_
      refine s_rd (v := (Value.bool true)) (r_pick rfl rfl (fun _ => rfl) (fun h => by cases h)) ?_
      refine HL_nil ?_
      refine HC_condT rfl ?_
      refine HC_seq ?_
      refine HC_region ?_
      refine s_rd (v := (Value.bool false)) (r_assign rfl rfl) ?_
      refine HL_nil ?_
      exact HC_ret (show endQ prog f9 R .ret _ _ from ⟨_, res1 rfl (rv_tmp rfl), h⟩)
    · replace h := h.2 hc
      refine HL_known (t := 56) (v := .bool false) (congrArg Value.bool (decide_eq_false hc)) ?_
      refine HL_known (t := 57) (v := .bool false) (congrArg Value.bool (decide_eq_false hc)) ?_
      refine s_rd (v := (Value.int .i64 v_52_1)) (r_move rfl rfl) ?_
      refine s_rd (v := (Value.bool (decide (v_52_1 ≠ (0 : Int))))) (w_neq rfl rfl) ?_
      refine s_rd (v := (Value.bool (decide (v_52_1 ≠ (0 : Int))))) (r_pick rfl rfl (fun h => by cases h) (fun _ => rfl)) ?_
      refine s_rd (v := (Value.bool (decide (v_52_1 ≠ (0 : Int))))) (r_move rfl rfl) ?_
      by_cases hc : v_52_1 ≠ (0 : Int)
      · replace h := h.1 hc
        refine HL_known (t := 59) (v := .bool true) (congrArg Value.bool (decide_eq_true hc)) ?_
        refine HL_known (t := 60) (v := .bool true) (congrArg Value.bool (decide_eq_true hc)) ?_
        refine HL_known (t := 61) (v := .bool true) (congrArg Value.bool (decide_eq_true hc)) ?_
        refine s_skip ?_
        refine s_skip ?_
        refine s_skip ?_
        refine s_skip ?_
        refine s_skip ?_
        refine s_rd (v := (Value.bool true)) (r_pick rfl rfl (fun _ => rfl) (fun h => by cases h)) ?_
        refine HL_nil ?_
        refine HC_condT rfl ?_
        refine HC_seq ?_
        refine HC_region ?_
        refine s_rd (v := (Value.bool false)) (r_assign rfl rfl) ?_
        refine HL_nil ?_
        exact HC_ret (show endQ prog f9 R .ret _ _ from ⟨_, res1 rfl (rv_tmp rfl), h⟩)
      · replace h := h.2 hc
        refine HL_known (t := 59) (v := .bool false) (congrArg Value.bool (decide_eq_false hc)) ?_
        refine HL_known (t := 60) (v := .bool false) (congrArg Value.bool (decide_eq_false hc)) ?_
        refine HL_known (t := 61) (v := .bool false) (congrArg Value.bool (decide_eq_false hc)) ?_
        refine s_rd (v := (Sl.v v_52)) (r_move rfl rfl) ?_
        refine s_rd (v := (Value.int .u8 fill_1)) (r_move rfl rfl) ?_
        refine s_ef (k_call (vs := [(Value.int .u8 fill_1)]) cb15 (evC rfl evN) (h.mono ?_))
        clear h; rintro v F ⟨v_64, rfl, h⟩
        refine s_ef (k_call (vs := [(Sl.v v_52), (Sl.v v_64)]) cb18 (evC rfl (evC rfl evN)) (h.mono ?_))
        clear h; rintro v F ⟨v_65, rfl, h⟩
        refine s_rd (v := (Value.bool (!v_65))) (r_not rfl rfl) ?_
        refine s_rd (v := (Value.bool (!v_65))) (r_pick rfl rfl (fun h => by cases h) (fun _ => rfl)) ?_
        refine HL_nil ?_
        refine HC_cond (t := (!v_65)) rfl (fun hc => ?_) (fun hc => ?_)
        · replace h := h.1 hc
          clear hc
          refine HC_seq ?_
          refine HC_region ?_
          refine s_rd (v := (Value.bool false)) (r_assign rfl rfl) ?_
          refine HL_nil ?_
          exact HC_ret (show endQ prog f9 R .ret _ _ from ⟨_, res1 rfl (rv_tmp rfl), h⟩)
        · replace h := h.2 hc
          clear hc
          refine HC_skip ?_
          refine HC_seq ?_
          refine HC_region ?_
          refine s_rd (v := (Sl.v v_52)) (r_move rfl rfl) ?_
          obtain ⟨a69_, hb69, hl69, hu69, h⟩ := h
          refine s_rd (v := (Value.pointer (some (Addr.add a69_ (Int.toNat (5 : Int) * 1))))) (w_indexAddr rfl rfl underlying26 sz5 hb69 hl69 hu69) ?_
          obtain ⟨v_70, hc70, h⟩ := h
          refine s_rd (v := (Value.int .u8 v_70)) (r_load1 rfl rfl underlying5 rfl hc70) ?_
          refine s_rd (v := (Value.int .u8 (IntKind.u8.wrap (v_70 + (1 : Int))))) (r_add rfl rfl rfl) ?_
          obtain ⟨a72_, hb72, hl72, hu72, h⟩ := h
          refine s_rd (v := (Value.pointer (some (Addr.add a72_ (Int.toNat (5 : Int) * 1))))) (w_indexAddr rfl rfl underlying26 sz5 hb72 hl72 hu72) ?_
          refine s_ef0 (k_store1 (v := (Value.int .u8 (IntKind.u8.wrap (v_70 + (1 : Int))))) rfl rfl sz5 rfl st_int ?_)
          obtain ⟨c, e, hz3, hz4, hz5, h⟩ := h
          refine ⟨c, e, hz3, hz4, hz5, ?_⟩
          replace h := atE h
          refine HL_nil ?_
          refine HC_seq ?_
          refine HC_region ?_
          refine s_rd (v := (Value.pointer v_28)) (r_move rfl rfl) ?_
          refine s_rd (v := (Value.int .i64 (Int.tmod (IntKind.i64.wrap at_2) (4 : Int)))) (r_move rfl rfl) ?_
          refine s_ef (k_call (vs := [(Value.pointer v_28), (Value.int .i64 (Int.tmod (IntKind.i64.wrap at_2) (4 : Int)))]) cb16 (evC rfl (evC rfl evN)) (h.mono ?_))
          clear h; rintro v F ⟨v_76, v_76_1, rfl, h⟩
          refine s_rd (v := (Value.tuple #[(Sl.v v_76), (Value.int .i64 v_76_1)])) (r_move rfl rfl) ?_
          refine s_rd (v := (Sl.v v_76)) (r_extract rfl rfl rfl) ?_
          refine s_rd (v := (Value.int .i64 v_76_1)) (r_extract rfl rfl rfl) ?_
          refine s_rd (v := (Sl.v v_76)) (r_assign rfl rfl) ?_
          refine s_rd (v := (Value.int .i64 v_76_1)) (r_assign rfl rfl) ?_
          refine HL_nil ?_
          refine HC_seq ?_
          refine HC_region ?_
          refine s_rd (v := (Value.pointer v_28)) (r_move rfl rfl) ?_
          refine s_ef (k_call (vs := [(Value.pointer v_28)]) cb27 (evC rfl evN) (h.mono ?_))
          clear h; rintro v F ⟨v_80, rfl, h⟩
          refine s_rd (v := (Value.pointer v_80)) (r_assign rfl rfl) ?_
          refine HL_nil ?_
          refine HC_seq ?_
          refine HC_seq ?_
          refine HC_region ?_
          refine s_rd (v := (Value.pointer v_80)) (r_move rfl rfl) ?_
          refine s_rd (v := (Value.bool (v_80.isNone))) (r_eqlNil rfl rfl rfl underlying24) ?_
          refine s_rd (v := (Value.bool (v_80.isNone))) (r_move rfl rfl) ?_
          by_cases hc : (v_80.isNone) = true
          · replace h := h.1 hc
            refine HL_known (t := 82) (v := .bool true) (congrArg Value.bool hc) ?_
            refine HL_known (t := 83) (v := .bool true) (congrArg Value.bool hc) ?_
            refine s_skip ?_
            refine s_skip ?_
            refine s_skip ?_
            refine s_skip ?_
            refine s_skip ?_
            refine s_rd (v := (Value.bool true)) (r_pick rfl rfl (fun _ => rfl) (fun h => by cases h)) ?_
            refine HL_nil ?_
            refine HC_condT rfl ?_
            refine HC_seq ?_
            refine HC_region ?_
            refine s_rd (v := (Value.bool false)) (r_assign rfl rfl) ?_
            refine HL_nil ?_
            exact HC_ret (show endQ prog f9 R .ret _ _ from ⟨_, res1 rfl (rv_tmp rfl), h⟩)
          · replace hc := eq_false_of_ne_true hc; replace h := h.2 hc
            refine HL_known (t := 82) (v := .bool false) (congrArg Value.bool hc) ?_
            refine HL_known (t := 83) (v := .bool false) (congrArg Value.bool hc) ?_
            refine s_rd (v := (Sl.v v_76)) (r_move rfl rfl) ?_
            refine s_rd (v := (Value.int .u8 fill_1)) (r_move rfl rfl) ?_
            refine s_ef (k_call (vs := [(Value.int .u8 fill_1)]) cb15 (evC rfl evN) (h.mono ?_))
            clear h; rintro v F ⟨v_86, rfl, h⟩
            refine s_ef (k_call (vs := [(Sl.v v_76), (Sl.v v_86)]) cb18 (evC rfl (evC rfl evN)) (h.mono ?_))
            clear h; rintro v F ⟨v_87, rfl, h⟩
            refine s_rd (v := (Value.bool (!v_87))) (r_not rfl rfl) ?_
            refine s_rd (v := (Value.bool (!v_87))) (r_pick rfl rfl (fun h => by cases h) (fun _ => rfl)) ?_
            refine HL_nil ?_
            refine HC_cond (t := (!v_87)) rfl (fun hc => ?_) (fun hc => ?_)
            · replace h := h.1 hc
              clear hc
              refine HC_seq ?_
              refine HC_region ?_
              refine s_rd (v := (Value.bool false)) (r_assign rfl rfl) ?_
              refine HL_nil ?_
              exact HC_ret (show endQ prog f9 R .ret _ _ from ⟨_, res1 rfl (rv_tmp rfl), h⟩)
            · replace h := h.2 hc
              clear hc
              refine HC_skip ?_
              refine HC_seq ?_
              refine HC_region ?_
              refine s_rd (v := (Value.pointer v_80)) (r_move rfl rfl) ?_
              refine s_ef (k_call (vs := [(Value.pointer v_80)]) cb17 (evC rfl evN) (h.mono ?_))
              clear h; rintro v F ⟨v_91, rfl, h⟩
              refine s_rd (v := (Value.int .i64 v_91)) (r_assign rfl rfl) ?_
              refine HL_nil ?_
              refine HC_seq ?_
              refine HC_region ?_
              refine s_rd (v := (Value.pointer v_28)) (r_move rfl rfl) ?_
              refine s_ef (k_call (vs := [(Value.pointer v_28)]) cb17 (evC rfl evN) (h.mono ?_))
              clear h; rintro v F ⟨v_93, rfl, h⟩
              refine s_rd (v := (Value.int .i64 v_93)) (r_assign rfl rfl) ?_
              refine HL_nil ?_
              refine HC_seq ?_
              refine HC_region ?_
              refine s_rd (v := (Value.pointer v_28)) (r_move rfl rfl) ?_
              refine s_rd (v := (Value.int .i64 (Int.tmod (IntKind.i64.wrap at_2) (4 : Int)))) (r_move rfl rfl) ?_
              refine s_ef (k_call (vs := [(Value.pointer v_28), (Value.int .i64 (Int.tmod (IntKind.i64.wrap at_2) (4 : Int)))]) cb16 (evC rfl (evC rfl evN)) (h.mono ?_))
              clear h; rintro v F ⟨v_97, v_97_1, rfl, h⟩
              refine s_rd (v := (Value.tuple #[(Sl.v v_97), (Value.int .i64 v_97_1)])) (r_move rfl rfl) ?_
              refine s_rd (v := (Sl.v v_97)) (r_extract rfl rfl rfl) ?_
              refine s_rd (v := (Value.int .i64 v_97_1)) (r_extract rfl rfl rfl) ?_
              refine s_rd (v := (Sl.v v_97)) (r_assign rfl rfl) ?_
              refine s_rd (v := (Value.int .i64 v_97_1)) (r_assign rfl rfl) ?_
              refine HL_nil ?_
              refine HC_seq ?_
              refine HC_seq ?_
              refine HC_region ?_
              refine s_rd (v := (Sl.v v_97)) (r_move rfl rfl) ?_
              refine s_rd (v := (Value.int .i64 (v_97.len : Int))) (r_lenSl rfl rfl underlying26) ?_
              refine s_rd (v := (Value.bool (decide ((v_97.len : Int) ≠ (64 : Int))))) (w_neq rfl rfl) ?_
              refine HL_nil ?_
              refine HC_cond (t := (decide ((v_97.len : Int) ≠ (64 : Int)))) rfl (fun hc => ?_) (fun hc => ?_)
              · replace h := h.1 (of_decide_eq_true hc)
                clear hc
                refine HC_seq ?_
                refine HC_region ?_
                refine s_rd (v := (Value.bool false)) (r_assign rfl rfl) ?_
                refine HL_nil ?_
                exact HC_ret (show endQ prog f9 R .ret _ _ from ⟨_, res1 rfl (rv_tmp rfl), h⟩)
              · replace h := h.2 (of_decide_eq_false hc)
                clear hc
                refine HC_skip ?_
                refine HC_seq ?_
                refine HC_region ?_
                refine s_rd (v := (Sl.v v_97)) (r_move rfl rfl) ?_
                obtain ⟨a104_, hb104, hl104, hu104, h⟩ := h
                refine s_rd (v := (Value.pointer (some (Addr.add a104_ (Int.toNat (9 : Int) * 1))))) (w_indexAddr rfl rfl underlying26 sz5 hb104 hl104 hu104) ?_
                obtain ⟨v_105, hc105, h⟩ := h
                refine s_rd (v := (Value.int .u8 v_105)) (r_load1 rfl rfl underlying5 rfl hc105) ?_
                refine s_rd (v := (Value.int .u8 (IntKind.u8.wrap (v_105 + (1 : Int))))) (r_add rfl rfl rfl) ?_
                obtain ⟨a107_, hb107, hl107, hu107, h⟩ := h
                refine s_rd (v := (Value.pointer (some (Addr.add a107_ (Int.toNat (9 : Int) * 1))))) (w_indexAddr rfl rfl underlying26 sz5 hb107 hl107 hu107) ?_
                refine s_ef0 (k_store1 (v := (Value.int .u8 (IntKind.u8.wrap (v_105 + (1 : Int))))) rfl rfl sz5 rfl st_int ?_)
                obtain ⟨c, e, hz3, hz4, hz5, h⟩ := h
                refine ⟨c, e, hz3, hz4, hz5, ?_⟩
                replace h := atE h
                refine HL_nil ?_
                refine HC_seq ?_
                refine HC_region ?_
                refine s_rd (v := (Value.pointer v_28)) (r_move rfl rfl) ?_
                refine s_rd (v := (Value.int .i64 (Int.tmod (IntKind.i64.wrap at_2) (4 : Int)))) (r_move rfl rfl) ?_
                refine s_ef (k_call (vs := [(Value.pointer v_28), (Value.int .i64 (Int.tmod (IntKind.i64.wrap at_2) (4 : Int)))]) cb16 (evC rfl (evC rfl evN)) (h.mono ?_))
                clear h; rintro v F ⟨v_111, v_111_1, rfl, h⟩
                refine s_rd (v := (Value.tuple #[(Sl.v v_111), (Value.int .i64 v_111_1)])) (r_move rfl rfl) ?_
                refine s_rd (v := (Sl.v v_111)) (r_extract rfl rfl rfl) ?_
                refine s_rd (v := (Value.int .i64 v_111_1)) (r_extract rfl rfl rfl) ?_
                refine s_rd (v := (Sl.v v_111)) (r_assign rfl rfl) ?_
                refine s_rd (v := (Value.int .i64 v_111_1)) (r_assign rfl rfl) ?_
                refine HL_nil ?_
                refine HC_seq ?_
                refine HC_region ?_
                refine s_rd (v := (Value.int .i64 v_91)) (r_move rfl rfl) ?_
                refine s_rd (v := (Value.bool (decide (v_91 = (0 : Int))))) (w_eql rfl rfl) ?_
                refine s_rd (v := (Value.bool (decide (v_91 = (0 : Int))))) (r_move rfl rfl) ?_
                by_cases hc : v_91 = (0 : Int)
                · replace h := h.1 hc
                  refine HL_known (t := 115) (v := .bool true) (congrArg Value.bool (decide_eq_true hc)) ?_
                  refine HL_known (t := 116) (v := .bool true) (congrArg Value.bool (decide_eq_true hc)) ?_
                  refine s_rd (v := (Value.int .i64 v_93)) (r_move rfl rfl) ?_
                  refine s_rd (v := (Value.bool (decide (v_93 = (0 : Int))))) (w_eql rfl rfl) ?_
                  refine s_rd (v := (Value.bool (decide (v_93 = (0 : Int))))) (r_pick rfl rfl (fun _ => rfl) (fun h => by cases h)) ?_
                  refine s_rd (v := (Value.bool (decide (v_93 = (0 : Int))))) (r_move rfl rfl) ?_
                  by_cases hc : v_93 = (0 : Int)
                  · replace h := h.1 hc
                    refine HL_known (t := 118) (v := .bool true) (congrArg Value.bool (decide_eq_true hc)) ?_
                    refine HL_known (t := 119) (v := .bool true) (congrArg Value.bool (decide_eq_true hc)) ?_
                    refine HL_known (t := 120) (v := .bool true) (congrArg Value.bool (decide_eq_true hc)) ?_
                    refine s_rd (v := (Sl.v v_111)) (r_move rfl rfl) ?_
                    refine s_rd (v := (Value.int .u8 fill_1)) (r_move rfl rfl) ?_
                    refine s_ef (k_call (vs := [(Value.int .u8 fill_1)]) cb15 (evC rfl evN) (h.mono ?_))
                    clear h; rintro v F ⟨v_123, rfl, h⟩
                    refine s_ef (k_call (vs := [(Sl.v v_111), (Sl.v v_123)]) cb18 (evC rfl (evC rfl evN)) (h.mono ?_))
                    clear h; rintro v F ⟨v_124, rfl, h⟩
                    refine s_rd (v := (Value.bool v_124)) (r_pick rfl rfl (fun _ => rfl) (fun h => by cases h)) ?_
                    refine s_rd (v := (Value.bool v_124)) (r_assign rfl rfl) ?_
                    refine HL_nil ?_
                    exact HC_ret (show endQ prog f9 R .ret _ _ from ⟨_, res1 rfl (rv_tmp rfl), h⟩)
                  · replace h := h.2 hc
                    refine HL_known (t := 118) (v := .bool false) (congrArg Value.bool (decide_eq_false hc)) ?_
                    refine HL_known (t := 119) (v := .bool false) (congrArg Value.bool (decide_eq_false hc)) ?_
                    refine HL_known (t := 120) (v := .bool false) (congrArg Value.bool (decide_eq_false hc)) ?_
                    refine s_skip ?_
                    refine s_skip ?_
                    refine s_skip ?_
                    refine s_skip ?_
                    refine s_rd (v := (Value.bool false)) (r_pick rfl rfl (fun h => by cases h) (fun _ => rfl)) ?_
                    refine s_rd (v := (Value.bool false)) (r_assign rfl rfl) ?_
                    refine HL_nil ?_
                    exact HC_ret (show endQ prog f9 R .ret _ _ from ⟨_, res1 rfl (rv_tmp rfl), h⟩)
                · replace h := h.2 hc
                  refine HL_known (t := 115) (v := .bool false) (congrArg Value.bool (decide_eq_false hc)) ?_
                  refine HL_known (t := 116) (v := .bool false) (congrArg Value.bool (decide_eq_false hc)) ?_
                  refine s_skip ?_
                  refine s_skip ?_
                  refine s_rd (v := (Value.bool false)) (r_pick rfl rfl (fun h => by cases h) (fun _ => rfl)) ?_
                  refine s_rd (v := (Value.bool false)) (r_move rfl rfl) ?_
                  refine s_skip ?_
                  refine s_skip ?_
                  refine s_skip ?_
                  refine s_skip ?_
                  refine s_rd (v := (Value.bool false)) (r_pick rfl rfl (fun h => by cases h) (fun _ => rfl)) ?_
                  refine s_rd (v := (Value.bool false)) (r_assign rfl rfl) ?_
                  refine HL_nil ?_
                  exact HC_ret (show endQ prog f9 R .ret _ _ from ⟨_, res1 rfl (rv_tmp rfl), h⟩)

end Go.Proofs.Ythnolhcknhhipaa

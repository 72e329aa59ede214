/-
  DiagramExpansion: the walk.
-/
import Derived.Test.YtafojmoeaneedaaEt
import Derived.Test.YtafojmoeaneedaaFb
import Derived.Test.YtafojmoeaneedaaGL6
namespace Go.Proofs.Ytafojmoeaneedaa
open Go Go.Proofs.Try Tr
set_option maxRecDepth 10000

theorem expansion_spec {F : PH} {s0 : Array Value} {n c : Int} (hs : SetV F s0 n) (hc0 : 0 ≤ c) (hc1 : c ≤ 255) : Spec prog 6 #[.agg s0, .int .u8 c] F fun r F' => r = .bool true ∧ F.le F' := by
  refine c6 ?_
  unfold b6
  intro b2 hb2
  refine atI ?_
  have la := le_set_fresh (.cells s0 24) hb2
  have q2 := set_eq F b2 (.cells s0 24)
  generalize F.set b2 (.cells s0 24) = G at *
  have lG := la
  clear la
  have s := sanity_spec G
  refine s.mono ?_
  clear s
  rintro _ F1 ⟨rfl, la⟩
  refine ⟨_, rfl, ?_⟩
  have lF1 := lG.trans la
  replace q2 := la _ _ q2
  clear la
  refine ⟨_, hs.size, row_whole q2, ?_⟩
  have s := made_spec (F := F1) (hs.le lF1)
  refine s.mono ?_
  clear s
  rintro _ F2 ⟨w, t, rfl, kt, hw, la⟩
  refine ⟨_, rfl, ?_⟩
  have lF2 := lF1.trans la
  replace q2 := la _ _ q2
  clear la
  refine locD hw rfl (Los.nil _) fun b6 F3 lb hF3 hc => ?_
  have lF3 := lF2.trans lb
  replace q2 := lb _ _ q2
  clear hc hw lb
  have hsm := kt.small (nOf_le n)
  have hv : (c % 64).toNat < 64 := by omega
  have hwv : IntKind.i64.wrap (Int.tmod c 64) = (((c % 64).toNat : Nat) : Int) := by rw [Int.tmod_eq_emod_of_nonneg hc0, w64_eq (by omega) (by omega)]; omega
  rw [hwv]
  generalize (c % 64).toNat = v at *
  have kh := kt.fx (w := v) (b := true)
  have kl := kt.fx (w := v) (b := false)
  have sh := kh.small (nOf_le n)
  have sl := kl.small (nOf_le n)
  have ke : Sx (nOf n) (exT v t) := kl.ap kh (Sx.leaf _ _)
  have se := ke.small (nOf_le n)
  have fh := (fx_facts v true kt.1).2.2
  have fl := (fx_facts v false kt.1).2.2
  have fe := (exT_ev kt.1 v).2
  have eh : resD (dia t) v true = (dia (fx v true t), 0) := res_eq hsm hv sh fh
  have el : resD (dia t) v false = (dia (fx v false t), 0) := res_eq hsm hv sl fl
  have ee : exD (dia t) v = (dia (exT v t), 0) := ex_eq hsm hv se fe
  have eb : cho (dia (tv v)) (dia (fx v true t)) (dia (fx v false t)) = (dia t, 0) := cho_eq (tv_small hv) sh sl hsm fun x => by
    rw [fh, fl]
    have hx : t.ev x = t.ev (x.set v (x v)) := ev_congr t kt.1 _ _ fun i _ => by unfold Cf.set; split <;> simp_all
    rw [hx]
    cases h : x v <;> simp [oCho, Tr.ev, h]
  have eu : bin oOr (dia (fx v true t)) (dia (fx v false t)) = (dia (exT v t), 0) := bin_eq sh sl se fun x => by rw [fe, fh, fl, Bool.or_comm]
  have es : resD (dia (fx v true t)) v false = (dia (fx v true t), 0) := res_eq sh hv sh fun x => by
    rw [fh, fh]
    congr 1
    funext i
    unfold Cf.set
    split <;> rfl
  refine getD (b := b6) (d := dia t) hF3 (by simp) fun w0 hw0 => ?_
  have s := restrict_spec hw0 v true
  rw [eh] at s
  refine s.mono ?_
  clear s
  rintro _ F4 ⟨⟨w, rfl, hw⟩, la⟩
  refine ⟨w, _, rfl, ?_⟩
  have hF4 := hF3.le la
  have lF4 := lF3.trans la
  clear la
  refine locD hw rfl hF4 fun b8 F5 lb hF5 hc => ?_
  have lF5 := lF4.trans lb
  clear hc hw lb
  refine getD (b := b6) (d := dia t) hF5 (by simp) fun w0 hw0 => ?_
  have s := restrict_spec hw0 v false
  rw [el] at s
  refine s.mono ?_
  clear s
  rintro _ F6 ⟨⟨w, rfl, hw⟩, la⟩
  refine ⟨w, _, rfl, ?_⟩
  have hF6 := hF5.le la
  have lF6 := lF5.trans la
  clear la
  refine locD hw rfl hF6 fun b10 F7 lb hF7 hc => ?_
  have lF7 := lF6.trans lb
  clear hc hw lb
  refine getD (b := b6) (d := dia t) hF7 (by simp) fun w0 hw0 => ?_
  have s := exists_spec hw0 v
  rw [ee] at s
  refine s.mono ?_
  clear s
  rintro _ F8 ⟨⟨w, rfl, hw⟩, la⟩
  refine ⟨w, _, rfl, ?_⟩
  have hF8 := hF7.le la
  have lF8 := lF7.trans la
  clear la
  refine locD hw rfl hF8 fun b12 F9 lb hF9 hc => ?_
  have lF9 := lF8.trans lb
  clear hc hw lb
  have s := var_spec (F := F9) v
  rw [varD_eq hv] at s
  refine s.mono ?_
  clear s
  rintro _ F10 ⟨⟨w, rfl, hw⟩, la⟩
  refine ⟨w, _, rfl, ?_⟩
  have hF10 := hF9.le la
  have lF10 := lF9.trans la
  clear la
  refine locD hw rfl hF10 fun b14 F11 lb hF11 hc => ?_
  have lF11 := lF10.trans lb
  clear hc hw lb
  refine getD (b := b14) (d := dia (tv v)) hF11 (by simp) fun w0 hw0 => ?_
  refine getD (b := b8) (d := dia (fx v true t)) hF11 (by simp) fun w1 hw1 => ?_
  refine getD (b := b10) (d := dia (fx v false t)) hF11 (by simp) fun w2 hw2 => ?_
  have s := choose_spec hw0 hw1 hw2
  rw [eb] at s
  refine s.mono ?_
  clear s
  rintro _ F12 ⟨⟨w, rfl, hw⟩, la⟩
  refine ⟨w, _, rfl, ?_⟩
  have hF12 := hF11.le la
  have lF12 := lF11.trans la
  clear la
  refine locD hw rfl hF12 fun b16 F13 lb hF13 hc => ?_
  have lF13 := lF12.trans lb
  clear hc hw lb
  refine getD (b := b8) (d := dia (fx v true t)) hF13 (by simp) fun w0 hw0 => ?_
  refine getD (b := b10) (d := dia (fx v false t)) hF13 (by simp) fun w1 hw1 => ?_
  have s := or_spec hw0 hw1
  rw [eu] at s
  refine s.mono ?_
  clear s
  rintro _ F14 ⟨⟨w, rfl, hw⟩, la⟩
  refine ⟨w, _, rfl, ?_⟩
  have hF14 := hF13.le la
  have lF14 := lF13.trans la
  clear la
  refine locD hw rfl hF14 fun b18 F15 lb hF15 hc => ?_
  have lF15 := lF14.trans lb
  clear hc hw lb
  refine getD (b := b8) (d := dia (fx v true t)) hF15 (by simp) fun w0 hw0 => ?_
  have s := restrict_spec hw0 v false
  rw [es] at s
  refine s.mono ?_
  clear s
  rintro _ F16 ⟨⟨w, rfl, hw⟩, la⟩
  refine ⟨w, _, rfl, ?_⟩
  have hF16 := hF15.le la
  have lF16 := lF15.trans la
  clear la
  refine locD hw rfl hF16 fun b20 F17 lb hF17 hc => ?_
  have lF17 := lF16.trans lb
  clear hc hw lb
  refine ⟨fun _ => ⟨fun _ => ⟨fun _ => ⟨fun _ => ⟨fun _ => ?_, fun h => absurd rfl h⟩, fun h => absurd rfl h⟩, fun h => absurd rfl h⟩, fun h => absurd rfl h⟩, fun h => absurd rfl h⟩
  rw [show decide ((0 : Int) = 0) = true from rfl]
  unfold b6j1
  refine ⟨fun _ => ?_, fun h => by cases h⟩
  refine getD (b := b16) (d := dia t) hF17 (by simp) fun w0 hw0 => ?_
  refine getD (b := b6) (d := dia t) hF17 (by simp) fun w1 hw1 => ?_
  have s := same_spec hw0 hw1 (dia_fit hsm)
  refine s.mono ?_
  clear s
  rintro _ F18 ⟨rfl, la⟩
  refine ⟨_, rfl, fun _ => ?_, fun h => by simp at h⟩
  have hF18 := hF17.le la
  have lF18 := lF17.trans la
  clear la
  refine getD (b := b12) (d := dia (exT v t)) hF18 (by simp) fun w0 hw0 => ?_
  refine getD (b := b18) (d := dia (exT v t)) hF18 (by simp) fun w1 hw1 => ?_
  have s := same_spec hw0 hw1 (dia_fit se)
  refine s.mono ?_
  clear s
  rintro _ F19 ⟨rfl, la⟩
  refine ⟨_, rfl, fun _ => ?_, fun h => by simp at h⟩
  have hF19 := hF18.le la
  have lF19 := lF18.trans la
  clear la
  refine getD (b := b20) (d := dia (fx v true t)) hF19 (by simp) fun w0 hw0 => ?_
  refine getD (b := b8) (d := dia (fx v true t)) hF19 (by simp) fun w1 hw1 => ?_
  have s := same_spec hw0 hw1 (dia_fit sh)
  refine s.mono ?_
  clear s
  rintro _ F20 ⟨rfl, la⟩
  refine ⟨_, rfl, fun _ => ?_, fun h => by simp at h⟩
  have hF20 := hF19.le la
  have lF20 := lF19.trans la
  clear la
  exact ⟨rfl, lF20⟩
end Go.Proofs.Ytafojmoeaneedaa

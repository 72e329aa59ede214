/-
  DiagramSupport: the walk.
-/
import Derived.Test.YtafojmoeaneedaaEt
import Derived.Test.YtafojmoeaneedaaFb
import Derived.Test.YtafojmoeaneedaaFp
import Derived.Test.YtafojmoeaneedaaGL13
namespace Go.Proofs.Ytafojmoeaneedaa
open Go Go.Proofs.Try Tr
set_option maxRecDepth 10000

theorem hasL_succ (t : Tr) (n : Nat) : hasL t (n + 1) = hasL t n ++ (open Classical in if has n t then [n] else []) := by
  unfold hasL
  rw [List.range_succ, List.filter_append]
  congr 1
  rw [List.filter_cons, List.filter_nil]
  split <;> split <;> simp_all
theorem hasL_prefix (t : Tr) : ∀ (m n : Nat), n ≤ m → ∃ X, hasL t m = hasL t n ++ X
  | 0, n, h => ⟨[], by rw [show n = 0 by omega, List.append_nil]⟩
  | m + 1, n, h => by
    by_cases e : n = m + 1
    · exact ⟨[], by rw [e, List.append_nil]⟩
    · obtain ⟨X, hX⟩ := hasL_prefix t m n (by omega)
      exact ⟨X ++ (open Classical in if has m t then [m] else []), by rw [hasL_succ, hX, List.append_assoc]⟩
theorem hasL_get {t : Tr} {v : Nat} (hv : v < 64) (h : has v t) : (hasL t 64)[(hasL t v).length]? = some v := by
  obtain ⟨X, hX⟩ := hasL_prefix t 64 (v + 1) (by omega)
  rw [hX, hasL_succ, if_pos h]
  simp
section
variable {F0 F : PH} {b4 : Nat} {t : Tr} {s : Sl}
theorem sup_loop (kt : Sx 6 t) (h4 : Lo F0 b4 (dia t)) (hr : RdS F0 s 1 (((hasL t 64).map fun (i : Nat) => (i : Int)).map vi)) (hle : F0.le F) {R : Value → PH → Prop} (hR : ∀ F', F0.le F' → R (.bool true) F') :
    ∃ (I1 : Nat → Int → Int → PH → Prop) (m1 : Nat), I1 m1 (0 : Int) (0 : Int) F ∧ ∀ m1 a v F, I1 m1 a v F → b13L1 (fun a v F => ∃ m', m' < m1 ∧ I1 m' a v F) true b4 s R a v F := by
  have hlen : s.len = (hasL t 64).length := by have := hr.len; simp at this; omega
  refine ⟨fun m a i F' => ∃ v : Nat, i = v ∧ a = ((hasL t v).length : Nat) ∧ v ≤ 64 ∧ m = 64 - v ∧ F0.le F', 64, ⟨0, rfl, rfl, by omega, rfl, hle⟩, ?_⟩
  rintro m a i F1 ⟨v, rfl, rfl, hv, rfl, l1⟩
  have hll : (hasL t v).length ≤ 64 := by
    unfold hasL
    exact Nat.le_trans (List.length_filter_le _ _) (by simp; exact hv)
  unfold b13L1
  refine ⟨fun hlt => ?_, fun hge => ?_⟩
  · have hv64 : v < 64 := by omega
    have kh := kt.fx (w := v) (b := true)
    have kl := kt.fx (w := v) (b := false)
    have sa := kt.small (by omega)
    have sh := kh.small (by omega)
    have sl := kl.small (by omega)
    have eh : resD (dia t) v true = (dia (fx v true t), 0) := res_eq sa hv64 sh (fx_facts v true kt.1).2.2
    have el : resD (dia t) v false = (dia (fx v false t), 0) := res_eq sa hv64 sl (fx_facts v false kt.1).2.2
    have hL : Los F1 [(b4, dia t)] := fun p hp => by rw [List.mem_singleton.1 hp]; exact h4.le l1
    refine getD (b := b4) (d := dia t) hL (by simp) fun w0 hw0 => ?_
    have sp := restrict_spec hw0 v true
    rw [eh] at sp
    refine sp.mono ?_
    clear sp
    rintro _ F2 ⟨⟨w, rfl, hw⟩, l2⟩
    refine ⟨w, _, rfl, ?_⟩
    refine locD hw rfl (hL.le l2) fun b8 F3 l3 h3 _ => ?_
    refine getD (b := b4) (d := dia t) h3 (by simp) fun w0 hw0 => ?_
    have sp := restrict_spec hw0 v false
    rw [el] at sp
    refine sp.mono ?_
    clear sp
    rintro _ F4 ⟨⟨w', rfl, hw'⟩, l4⟩
    refine ⟨w', _, rfl, ?_⟩
    refine locD hw' rfl (h3.le l4) fun b10 F5 l5 h5 _ => ?_
    have lt5 := l1.trans (l2.trans (l3.trans (l4.trans l5)))
    refine ⟨fun h => absurd rfl h, fun _ => ⟨fun h => absurd rfl h, fun _ => ?_⟩⟩
    refine getD (b := b8) (d := dia (fx v true t)) h5 (by simp) fun w0 hw0 => ?_
    refine getD (b := b10) (d := dia (fx v false t)) h5 (by simp) fun w1 hw1 => ?_
    refine (same_spec hw0 hw1 (dia_fit sh)).mono ?_
    rintro _ F6 ⟨rfl, l6⟩
    have lt6 := lt5.trans l6
    refine ⟨_, rfl, fun h => ?_, fun h => ?_⟩
    · unfold b13j2
      refine ⟨64 - (v + 1), by omega, v + 1, w64s (by omega), ?_, by omega, rfl, lt6⟩
      rw [decide_eq_true_iff, same_iff kh.1 kl.1, fx_same kt.1] at h
      rw [hasL_succ, if_neg h, List.append_nil]
    · rw [decide_eq_false_iff_not, same_iff kh.1 kl.1, fx_same kt.1, Classical.not_not] at h
      have hg := hasL_get hv64 h
      have hlt2 := (List.getElem?_eq_some_iff.1 hg).1
      refine ⟨fun hbad => by omega, fun _ => ?_⟩
      obtain ⟨a, ha, hc⟩ : ∃ a, s.base = some a ∧ F6.cell (Addr.add a ((hasL t v).length * 1)) = some (vi v) := by
        obtain ⟨b, o, h1, h2⟩ := (hr.le lt6).cells (by omega)
        refine ⟨_, h1, ?_⟩
        have := h2 (hasL t v).length (by simpa using hlt2)
        obtain ⟨g1, g2⟩ := List.getElem?_eq_some_iff.1 hg
        simpa [g2] using this
      refine ⟨a, ha, by omega, by omega, v, by simpa using hc, fun h => absurd rfl h, fun _ => ?_⟩
      unfold b13j2
      refine ⟨64 - (v + 1), by omega, v + 1, w64s (by omega), ?_, by omega, rfl, lt6⟩
      rw [hasL_succ, if_pos h, List.length_append, w64s (by omega)]
      rfl
  · obtain rfl : v = 64 := by omega
    unfold b13j1
    exact ⟨fun _ => hR _ l1, fun h => by omega⟩
end
theorem supportLaw_spec {F : PH} {s0 : Array Value} {n : Int} (hs : SetV F s0 n) : Spec prog 13 #[.agg s0] F fun r F' => r = .bool true ∧ F.le F' := by
  refine c13 ?_
  unfold b13
  intro b1 hb1
  refine atI ?_
  have l1 := le_set_fresh (.cells s0 24) hb1
  have q1 := set_eq F b1 (.cells s0 24)
  generalize F.set b1 (.cells s0 24) = G at *
  refine (sanity_spec G).mono ?_
  rintro _ F1 ⟨rfl, la⟩
  replace q1 := la _ _ q1
  replace l1 := l1.trans la
  refine ⟨_, rfl, _, hs.size, row_whole q1, ?_⟩
  refine (made_spec (F := F1) (hs.le l1)).mono ?_
  rintro _ F2 ⟨w, t, rfl, kt, hw, lb⟩
  refine ⟨_, rfl, ?_⟩
  refine locD hw rfl (Los.nil _) fun b4 F3 lc h3 _ => ?_
  have l3 := l1.trans (lb.trans lc)
  have kt6 := kt.mono (nOf_le n)
  refine getD (b := b4) (d := dia t) h3 (by simp) fun w0 hw0 => ?_
  refine (support_spec hw0).mono ?_
  rintro _ F4 ⟨s, rfl, hr, l4⟩
  refine ⟨_, rfl, ?_⟩
  have e : supD (dia t) = (hasL t 64).map fun (i : Nat) => (i : Int) := by
    unfold supD
    rw [if_neg (by rw [chk_small (kt6.small (by omega))]; simp), supL_tree kt.1]
  rw [e] at hr
  exact sup_loop kt6 ((h3 (b4, dia t) (by simp)).le l4) hr PH.le_rfl fun F' h => ⟨rfl, l3.trans (l4.trans h)⟩
end Go.Proofs.Ytafojmoeaneedaa

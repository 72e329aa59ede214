/-
  The diagrams: equality of the reference; results by meaning; local variables that hold diagrams.
-/
import Derived.Test.YtafojmoeaneedaaEr
import Derived.Test.YtafojmoeaneedaaGe
import Derived.Test.YtafojmoeaneedaaGh
namespace Go.Proofs.Ytafojmoeaneedaa
open Go Go.Proofs.Try Tr
set_option maxRecDepth 10000

/-! the reference's Same, and is -/
theorem rsame_spec {F : PH} {v w : Array Value} {d e : Dia} (hd : DV F v d) (he : DV F w e) (hl : Fit d.1.length) : Spec prog 39 #[.agg v, .agg w] F fun r F' => r = .bool (decide (d = e)) ∧ F.le F' := by
  obtain ⟨s, rfl, hr⟩ := hd
  obtain ⟨t, rfl, ht⟩ := he
  refine c39 ?_
  unfold b39
  intro b2 hb2
  refine atI ?_
  have hle2 := le_set_fresh (.cells #[s.v, vi d.2] 28) hb2
  intro b3 hb3
  refine atI ?_
  have hle3 := le_set_fresh (.cells #[t.v, vi e.2] 28) hb3
  have hle : F.le _ := fun b o h => hle3 b o (hle2 b o h)
  have hc2 := hle3 _ _ (set_eq F b2 (.cells #[s.v, vi d.2] 28))
  have hc3 := set_eq (F.set b2 (.cells #[s.v, vi d.2] 28)) b3 (.cells #[t.v, vi e.2] 28)
  generalize (F.set b2 (.cells #[s.v, vi d.2] 28)).set b3 (.cells #[t.v, vi e.2] 28) = G at *
  replace hr := hr.le hle
  replace ht := ht.le hle
  have lens := hr.blen
  have lent := ht.blen
  have cs : G.cell ⟨b2, 0, none⟩ = some s.v := by rw [cell_eq hc2]; rfl
  have ct : G.cell ⟨b3, 0, none⟩ = some t.v := by rw [cell_eq hc3]; rfl
  obtain ⟨x, d2⟩ := d
  obtain ⟨y, e2⟩ := e
  simp only at hl lens lent hr ht hc2 hc3
  refine ⟨d2, by rw [cell_eq hc2]; rfl, e2, by rw [cell_eq hc3]; rfl, fun h => ?_, fun h => ?_⟩
  · refine ⟨?_, hle⟩
    simp [h]
  have h : d2 = e2 := by omega
  subst h
  refine ⟨s, cs, t, ct, fun hn => ?_, fun hn => ?_⟩
  · refine ⟨?_, hle⟩
    have : ¬ x = y := fun e => by subst e; omega
    simp [this]
  have hlen : x.length = y.length := by omega
  refine ⟨fun m i F' => ∃ k : Nat, i = k ∧ k ≤ x.length ∧ m = x.length - k ∧ F' = G ∧ x.take k = y.take k, x.length, ⟨0, rfl, by omega, rfl, rfl, rfl⟩, ?_⟩
  rintro m i F' ⟨k, rfl, hk, rfl, rfl, htake⟩
  unfold b39L1
  refine ⟨s, cs, fun hlt => ?_, fun hge => ?_⟩
  · have hkx : k < x.length := by omega
    have hky : k < y.length := by omega
    obtain ⟨p, hp, hpr, _⟩ := rdb hr (List.getElem?_eq_getElem hkx)
    obtain ⟨q, hq, hqr, _⟩ := rdb ht (List.getElem?_eq_getElem hky)
    refine ⟨s, cs, p, hp, by omega, hlt, barr x[k], rfl, by simpa using hpr, t, ct, q, hq, by omega, by omega, barr y[k], rfl, by simpa using hqr, decide (x[k] = y[k]), fun F => eqBr x[k] y[k] F, fun hne => ?_, fun heq => ?_⟩
    · refine ⟨?_, hle⟩
      have : ¬ x = y := by rintro rfl; simp at hne
      simp [this]
    · refine ⟨x.length - (k + 1), by omega, k + 1, w64s (by omega), by omega, rfl, rfl, ?_⟩
      rw [List.take_succ_eq_append_getElem hkx, List.take_succ_eq_append_getElem hky, htake]
      simp at heq
      rw [heq]
  · refine ⟨?_, hle⟩
    have hk' : k = x.length := by omega
    rw [hk', List.take_length, hlen, List.take_length] at htake
    simp [htake]
theorem is_spec {F : PH} {v : Array Value} {d : Dia} {l : Sl} {bs : List Br} {root : Int} (hd : DV F v d) (hr : RdS F l 3 (bflat bs)) (hl : Fit d.1.length) :
    Spec prog 58 #[.agg v, vi root, l.v] F fun r F' => r = .bool (decide (d = (bs, root))) ∧ F.le F' := by
  refine c58 ?_
  unfold b58
  intro b3 hb3
  refine atI ?_
  have l3 := le_set_fresh (.cells v 28) hb3
  refine ⟨v, hd.size, row_whole (set_eq _ _ _), ?_⟩
  refine (rsame_spec (hd.le l3) (e := (bs, root)) ⟨l, rfl, hr.le l3⟩ hl).mono ?_
  rintro _ F2 ⟨rfl, l2⟩
  exact ⟨_, rfl, rfl, l3.trans l2⟩

/-! results by what they mean -/
def Small (t : Tr) : Prop := t.ok ∧ (subs t).length ≤ 4096
theorem small_of {t : Tr} (h : t.ok) (hc : cnt t ≤ 4096) : Small t := ⟨h, Nat.le_trans (subs_length t) hc⟩
theorem chk_small {t : Tr} (h : Small t) : chk (dia t) = 0 := chk_dia h.1 h.2
theorem lim_small {t : Tr} (h : Small t) : lim (dia t) = (dia t, 0) := by
  unfold lim
  rw [if_neg]
  have := h.2
  simp only [dia, brs_length]
  omega
theorem chkL_small2 {a b : Tr} (ha : Small a) (hb : Small b) : chkL [dia a, dia b] = 0 := by simp [chkL, chk_small ha, chk_small hb]
theorem chkL_small3 {a b c : Tr} (ha : Small a) (hb : Small b) (hc : Small c) : chkL [dia a, dia b, dia c] = 0 := by simp [chkL, chk_small ha, chk_small hb, chk_small hc]
theorem bin_ap {o : Op2} {a b : Tr} (ha : Small a) (hb : Small b) : bin o (dia a) (dia b) = lim (dia (ap (fun x y _ => o x y) a b (leaf false))) := by
  unfold bin
  rw [chkL_small2 ha hb, if_neg (by simp), tre_dia ha.1, tre_dia hb.1]
theorem bin_eq {o : Op2} {a b t : Tr} (ha : Small a) (hb : Small b) (ht : Small t) (he : ∀ c, t.ev c = o (a.ev c) (b.ev c)) : bin o (dia a) (dia b) = (dia t, 0) := by
  have : ap (fun x y _ => o x y) a b (leaf false) = t := can_eq ht.1 fun c => he c
  rw [bin_ap ha hb, this, lim_small ht]
theorem cho_ap {c a b : Tr} (hc : Small c) (ha : Small a) (hb : Small b) : cho (dia c) (dia a) (dia b) = lim (dia (ap oCho c a b)) := by
  unfold cho
  rw [chkL_small3 hc ha hb, if_neg (by simp), tre_dia ha.1, tre_dia hb.1, tre_dia hc.1]
theorem cho_eq {c a b t : Tr} (hc : Small c) (ha : Small a) (hb : Small b) (ht : Small t) (he : ∀ x, t.ev x = oCho (c.ev x) (a.ev x) (b.ev x)) : cho (dia c) (dia a) (dia b) = (dia t, 0) := by
  have : ap oCho c a b = t := can_eq ht.1 fun x => he x
  rw [cho_ap hc ha hb, this, lim_small ht]
theorem dia_none0 : none0 = dia (leaf false) := rfl
theorem leaf_small (b : Bool) : Small (leaf b) := small_of trivial (by simp [cnt])
theorem tv_small {v : Nat} (h : v < 64) : Small (tv v) := small_of (ok_tv h) (by simp [cnt])
theorem varD_eq {v : Nat} (h : v < 64) : varD v = (dia (tv v), 0) := by
  unfold varD
  rw [if_neg (by omega), Int.toNat_natCast]
theorem res_eq {a t : Tr} {v : Nat} {b : Bool} (ha : Small a) (hv : v < 64) (ht : Small t) (he : ∀ c, t.ev c = a.ev (c.set v b)) : resD (dia a) v b = (dia t, 0) := by
  have : fx v b a = t := can_eq ht.1 he
  unfold resD
  rw [chk_small ha, if_neg (by simp), if_neg (by omega), Int.toNat_natCast, tre_dia ha.1, this, lim_small ht]
theorem exT_ev {a : Tr} (ha : a.ok) (v : Nat) : (exT v a).ok ∧ ∀ c, (exT v a).ev c = (a.ev (c.set v false) || a.ev (c.set v true)) := by
  obtain ⟨k0, _, e0⟩ := fx_facts v false ha
  obtain ⟨k1, _, e1⟩ := fx_facts v true ha
  obtain ⟨h1, _, h2⟩ := ap_facts (o := oOr3) k0 k1 (d := leaf false) trivial
  exact ⟨h1, fun c => by unfold exT; rw [h2, e0, e1]⟩
theorem ex_eq {a t : Tr} {v : Nat} (ha : Small a) (hv : v < 64) (ht : Small t) (he : ∀ c, t.ev c = (a.ev (c.set v false) || a.ev (c.set v true))) : exD (dia a) v = (dia t, 0) := by
  have : exT v a = t := (eq_of_ev ht.1 (exT_ev ha.1 v).1 fun c => (he c).trans ((exT_ev ha.1 v).2 c).symm).symm
  unfold exD
  rw [chk_small ha, if_neg (by simp), if_neg (by omega), Int.toNat_natCast, tre_dia ha.1, this, lim_small ht]
theorem holds_eq {a : Tr} (ha : Small a) (c : Int) : holdsD (dia a) c = a.ev (cfg c) := by
  unfold holdsD
  rw [chk_small ha, if_neg (by simp), tre_dia ha.1]
theorem least_eq {a : Tr} (ha : Small a) : leastD (dia a) = if a = leaf false then (0, false) else ((leastT a : Int), true) := by
  unfold leastD
  rw [chk_small ha, if_neg (by simp), tre_dia ha.1]
theorem count_eq {a : Tr} (ha : Small a) {n : Nat} (hn : n ≤ 64) (hb : below n a) : countD (dia a) n = (countT n a, 0) := by
  unfold countD
  rw [chk_small ha, if_neg (by simp), if_neg (by omega), Int.toNat_natCast, tre_dia ha.1, if_pos hb]
theorem same_iff {a b : Tr} (ha : a.ok) (hb : b.ok) : dia a = dia b ↔ a = b := ⟨dia_inj ha hb, fun h => by rw [h]⟩
theorem dia_fit {a : Tr} (ha : Small a) : Fit (dia a).1.length := by
  have := ha.2
  simp only [dia, brs_length]
  omega

/-! local variables -/
def Lo (F : PH) (b : Nat) (d : Dia) : Prop := ∃ w, F b = some (.cells w 28) ∧ DV F w d
def Los (F : PH) (l : List (Nat × Dia)) : Prop := ∀ p ∈ l, Lo F p.1 p.2
theorem Lo.le {F G : PH} {b : Nat} {d : Dia} (h : Lo F b d) (hl : F.le G) : Lo G b d := by
  obtain ⟨w, h1, h2⟩ := h
  exact ⟨w, hl _ _ h1, h2.le hl⟩
theorem Los.le {F G : PH} {l : List (Nat × Dia)} (h : Los F l) (hl : F.le G) : Los G l := fun p hp => (h p hp).le hl
theorem Los.nil (F : PH) : Los F [] := fun p hp => by cases hp
/-- A local variable is made and takes a diagram. -/
theorem locD {F : PH} {w z : Array Value} {d : Dia} {l : List (Nat × Dia)} {K : Nat → PH → Prop} (hd : DV F w d) (hz : z.size = 2) (hl : Los F l) (k : ∀ b F', F.le F' → Los F' ((b, d) :: l) → F' b = some (.cells w 28) → K b F') :
    ∀ b, F b = none → atF (F.set b (.cells z 28)) fun F => w.size = 2 ∧ (∀ v ∈ w.toList, storable v) ∧ ∃ c e, F (Addr.mk b 0 none).block = some (.cells c e (0, 0)) ∧ (Addr.mk b 0 none).spot = none ∧ (Addr.mk b 0 none).off + 2 ≤ c.size ∧
      atF (F.set (Addr.mk b 0 none).block (.cells (wr c (Addr.mk b 0 none).off w.toList) e)) (K b) := by
  intro b hb
  refine atI ?_
  refine stW (set_eq _ _ _) hd.size hz hd.st ?_
  rw [set_twice]
  have hle := le_set_fresh (.cells w 28) hb
  refine k b _ hle (fun p hp => ?_) (set_eq _ _ _)
  rcases List.mem_cons.1 hp with rfl | hp
  · exact ⟨w, set_eq _ _ _, hd.le hle⟩
  · exact (hl p hp).le hle
/-- A local variable is read. -/
theorem getD {F : PH} {b : Nat} {d : Dia} {l : List (Nat × Dia)} {K : Array Value → Prop} (hl : Los F l) (hm : (b, d) ∈ l) (k : ∀ w, DV F w d → K w) : ∃ v : Array Value, v.size = 2 ∧ F.row (Addr.mk b 0 none) v ∧ K v := by
  obtain ⟨w, h1, h2⟩ := hl _ hm
  exact ⟨w, h2.size, row_whole h1, k w h2⟩
end Go.Proofs.Ytafojmoeaneedaa

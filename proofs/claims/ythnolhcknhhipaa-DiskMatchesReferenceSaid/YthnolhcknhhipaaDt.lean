/-
  The disk: the reference's read, flush.
-/
import Derived.Test.YthnolhcknhhipaaDs
namespace Go.Proofs.Ythnolhcknhhipaa
open Go Go.Proofs.Try

theorem pcells_len : ∀ l : List (Int × Sl), (l.flatMap pcell).length = l.length * 2 := by
  intro l
  induction l with
  | nil => rfl
  | cons a l ih => rw [List.flatMap_cons, List.length_append, ih]; simp [pcell]; omega
theorem RMem.plen {F : PH} {cs : Array Value} {n : Nat} {s : DS} {SL : List Sl} {PL : List (Int × Sl)} {ssl psl ksl : Sl} (h : RMem F cs n s SL PL ssl psl ksl) : psl.len = s.ws.length := by
  have h7 := h.hp.len
  rw [pcells_len, h.pl] at h7
  omega
theorem RMem.slen {F : PH} {cs : Array Value} {n : Nat} {s : DS} {SL : List Sl} {PL : List (Int × Sl)} {ssl psl ksl : Sl} (h : RMem F cs n s SL PL ssl psl ksl) : ssl.len = n := by
  have h7 := h.hs.len
  rw [List.length_map, h.sl] at h7
  omega
/-- Pending write k of the reference: where it goes, and its bytes. -/
theorem RMem.pend {F : PH} {cs : Array Value} {n : Nat} {s : DS} {SL : List Sl} {PL : List (Int × Sl)} {ssl psl ksl : Sl} (h : RMem F cs n s SL PL ssl psl ksl) {k : Nat} (hk : k < s.ws.length) :
    ∃ b o w d, psl.base = some ⟨b, o, none⟩ ∧ s.ws[k]? = some w ∧ F.cell (Addr.add ⟨b, o, none⟩ (Int.toNat (k : Int) * 2)) = some (.int .i64 w.1) ∧ F.cell (Addr.add (Addr.add ⟨b, o, none⟩ (Int.toNat (k : Int) * 2)) 1) = some (Sl.v d) ∧ RdS F d 1 (u8s w.2) := by
  have hkP : k < PL.length := by rw [h.pl]; exact hk
  obtain ⟨w, hw, hwa, hwr⟩ := h.pr k PL[k] (List.getElem?_eq_getElem hkP)
  obtain ⟨b, o, hb, hc⟩ := h.hp.cells (by rw [h.plen]; omega)
  have hrow := h.hp.row hb (k * 2) #[.int .i64 PL[k].1, PL[k].2.v] (by rw [show (#[Value.int .i64 PL[k].1, PL[k].2.v] : Array Value).size = 2 from rfl, pcells_at hkP]; rfl)
  refine ⟨b, o, w, PL[k].2, hb, hw, ?_, ?_, hwr⟩
  · have := hrow 0 (by simp)
    rw [← hwa]
    simpa using this
  · have := hrow 1 (by simp)
    simpa using this
theorem RMem.sect {F : PH} {cs : Array Value} {n : Nat} {s : DS} {SL : List Sl} {PL : List (Int × Sl)} {ssl psl ksl : Sl} (h : RMem F cs n s SL PL ssl psl ksl) {t : Nat} (ht : t < n) :
    ∃ b o d, ssl.base = some ⟨b, o, none⟩ ∧ F.cell (Addr.add ⟨b, o, none⟩ (Int.toNat (t : Int) * 1)) = some (Sl.v d) ∧ RdS F d 1 (u8s (sec s.dur t)) := by
  have ht2 : t < SL.length := by rw [h.sl]; exact ht
  obtain ⟨b, o, hb, hc⟩ := h.hs.cells (by rw [h.slen]; omega)
  refine ⟨b, o, SL[t], hb, ?_, h.sr t _ (List.getElem?_eq_getElem ht2)⟩
  have := hc t (by simpa using ht2)
  simpa using this

theorem read_ref {F : PH} {cs : Array Value} {n : Nat} {s : DS} {at_ : Int} (h : RRep F cs n s) : Spec prog 26 #[.agg cs, .int .i64 at_] F fun v F' => ∃ sl, v = .tuple #[Sl.v sl, .int .i64 (s.read n at_).2] ∧ F.le F' ∧ RdS F' sl 1 (u8s (s.read n at_).1) := by
  refine c26 ?_
  unfold b26
  intro b2 hb2
  refine atI ?_
  have hle := le_set_fresh (.cells cs 48) hb2
  have hc2 : (F.set b2 (.cells cs 48)) b2 = some (.cells cs 48 (0, 0)) := set_eq _ _ _
  generalize F.set b2 (.cells cs 48) = F1 at *
  obtain ⟨SL, PL, ssl, psl, ksl, hm⟩ := h
  have hcs := hm.hc
  have hsl := hm.slen
  have hpl := hm.plen
  have hm1 := hm.le hle
  have bad : (at_ < 0 ∨ (n : Int) ≤ at_) → ∃ sl, Value.tuple #[Sl.v Sl.nil, .int .i64 1] = .tuple #[Sl.v sl, .int .i64 (s.read n at_).2] ∧ F.le F1 ∧ RdS F1 sl 1 (u8s (s.read n at_).1) := fun hb => by
    have e : s.read n at_ = ([], 1) := by unfold DS.read; rw [if_pos hb]
    rw [e]
    exact ⟨Sl.nil, rfl, hle, RdS.nil _ _⟩
  refine ⟨fun h1 => bad (.inl h1), fun h1 => ⟨ssl, by rw [cell_eq hc2, hcs]; rfl, fun h2 => bad (.inr (by omega)), fun h2 => ?_⟩⟩
  have hnb : ¬ (at_ < 0 ∨ (n : Int) ≤ at_) := by omega
  refine ⟨s.down, by rw [cell_eq hc2, hcs]; rfl, fun hd => ?_, fun hup => ?_⟩
  · have e : s.read n at_ = ([], 340) := by unfold DS.read; rw [if_neg hnb, if_pos hd]
    rw [e]
    exact ⟨Sl.nil, rfl, hle, RdS.nil _ _⟩
  obtain ⟨t, rfl⟩ := Int.eq_ofNat_of_zero_le (show 0 ≤ at_ by omega)
  have htn : t < n := by omega
  have e : s.read n (t : Int) = (DS.rdN s.ws t (sec s.dur t) s.ws.length, 0) := by unfold DS.read; rw [if_neg hnb, hup]; simp [DS.sect, sec]
  rw [e]
  have hwl := hm.ok.wl
  refine ⟨psl, by rw [cell_eq hc2, hcs]; rfl, ?_⟩
  rw [w64_eq (x := (psl.len : Int) - 1) (by omega) (by omega)]
  refine ⟨fun m i F' => ∃ k : Nat, i = (k : Int) - 1 ∧ k ≤ s.ws.length ∧ m = k ∧ F' = F1 ∧ DS.rdN s.ws t (sec s.dur t) s.ws.length = DS.rdN s.ws t (sec s.dur t) k, s.ws.length, ⟨s.ws.length, by omega, Nat.le_refl _, rfl, rfl, rfl⟩, ?_⟩
  rintro k i F' ⟨_, rfl, hk, rfl, rfl, hrd⟩
  unfold b26L1
  refine ⟨fun hge => ?_, fun hlt => ?_⟩
  · obtain ⟨j, rfl⟩ : ∃ j, k = j + 1 := ⟨k - 1, by omega⟩
    have hj : j < s.ws.length := by omega
    obtain ⟨b, o, w, d, hb, hw, hca, hcd, hr⟩ := hm1.pend hj
    have ej : (((j + 1 : Nat) : Int) - 1) = (j : Int) := by omega
    rw [ej]
    refine ⟨psl, by rw [cell_eq hc2, hcs]; rfl, _, hb, by omega, by omega, w.1, hca, fun hwt => ?_, fun hwt => ?_⟩
    · refine ⟨psl, by rw [cell_eq hc2, hcs]; rfl, _, hb, by omega, by omega, d, hcd, d, rfl, hle, ?_⟩
      rw [hrd]
      simp only [DS.rdN, hw, hwt, if_true]
      exact hr
    · refine ⟨j, by omega, j, ?_, by omega, rfl, rfl, ?_⟩
      · rw [w64_eq (by omega) (by omega)]
      · rw [hrd]
        simp only [DS.rdN, hw, hwt, if_false]
  · obtain rfl : k = 0 := by omega
    unfold b26j1
    obtain ⟨b, o, d, hb, hc, hr⟩ := hm1.sect htn
    exact ⟨ssl, by rw [cell_eq hc2, hcs]; rfl, _, hb, by omega, by omega, d, hc, d, rfl, hle, by rw [hrd]; exact hr⟩
end Go.Proofs.Ythnolhcknhhipaa

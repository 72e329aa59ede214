/-
  The disk: its methods.
-/
import Derived.Test.YthnolhcknhhipaaDb
namespace Go.Proofs.Ythnolhcknhhipaa
open Go Go.Proofs.Try

section
variable {F : PH} {d n : Nat} {fp : Nat → Prop} {s : DS}

theorem hdcell {F : PH} {d i : Nat} {c : Array Value} {v : Value} (h : F d = some (.cells c 63 (0, 0))) (hv : c[i]? = some v) : F.cell (Addr.add ⟨d, 0, none⟩ i) = some v := by
  rw [add_mk, Nat.zero_add, cell_eq h]; exact hv

theorem pending_spec (h : DRep F d fp n s) : Spec prog 13 #[.pointer (some ⟨d, 0, none⟩)] F fun v F' => v = .int .i64 (s.ws.length : Int) ∧ F' = F := by
  obtain ⟨bd, dc, tl, wsl, ksl, h⟩ := h
  refine c13 ?_
  refine ⟨_, rfl, wsl, hdcell h.hd rfl, ?_⟩
  rw [h.hl]
  exact ⟨rfl, rfl⟩

theorem sectors_spec (h : DRep F d fp n s) : Spec prog 25 #[.pointer (some ⟨d, 0, none⟩)] F fun v F' => v = .int .i64 (n : Int) ∧ F' = F := by
  obtain ⟨bd, dc, tl, wsl, ksl, h⟩ := h
  have h2 := h.ok.n2
  refine c25 ?_
  refine ⟨_, rfl, _, (cell_eq h.hd).trans rfl, ?_⟩
  refine ⟨?_, rfl⟩
  congr 1
  simp only
  rw [show (((n * 64 : Nat) : Int).tdiv 64) = (n : Int) by rw [Int.tdiv_eq_ediv_of_nonneg (by omega)]; omega]
  exact w64_eq (by omega) (by omega)

theorem sector_spec {bd dc : Nat} {wsl ksl : Sl} (h : F.cell ⟨d, 0, none⟩ = some (Sl.v ⟨some ⟨bd, 0, none⟩, n * 64, dc⟩)) (hn : n ≤ 65536) (hdc : n * 64 ≤ dc) {i : Nat} (hi : i < n) :
    Spec prog 31 #[.pointer (some ⟨d, 0, none⟩), .int .i64 (i : Int)] F fun v F' => v = Sl.v ⟨some ⟨bd, i * 64, none⟩, 64, 64⟩ ∧ F' = F := by
  refine c31 ?_
  have e1 : IntKind.i64.wrap ((i : Int) * 64) = ((i * 64 : Nat) : Int) := by rw [w64_eq (by omega) (by omega)]; omega
  have e2 : IntKind.i64.wrap ((i : Int) + 1) = ((i + 1 : Nat) : Int) := by rw [w64_eq (by omega) (by omega)]; omega
  have e3 : IntKind.i64.wrap (((i + 1 : Nat) : Int) * 64) = (((i + 1) * 64 : Nat) : Int) := by rw [w64_eq (by omega) (by omega)]; omega
  refine ⟨_, rfl, _, h, ?_⟩
  simp only [e1, e2, e3, Int.toNat_natCast]
  refine ⟨by omega, by omega, by omega, by omega, by omega, by omega, ?_, trivial⟩
  simp only [Sl.cut]
  rw [if_neg (by omega), show (i + 1) * 64 - i * 64 = 64 by omega]
  simp

theorem power_spec (h : DRep F d fp n s) : Spec prog 20 #[.pointer (some ⟨d, 0, none⟩)] F fun v F' => v = .tuple #[] ∧ DRep F' d fp n s.power ∧ Step fp F fp F' := by
  obtain ⟨bd, dc, tl, wsl, ksl, h⟩ := h
  have hd := h.hd
  have hne := h.ne_db
  have hwb := h.wblock
  have hfd : fp d := (h.hf d).2 (.inl rfl)
  refine c20 ?_
  refine ⟨_, rfl, ?_⟩
  refine st1' (b := d) (o := 2) (by simp) hd (by simp) ?_
  have hst : Step fp F fp (F.set d (.cells (#[Sl.v ⟨some ⟨bd, 0, none⟩, n * 64, dc⟩, Sl.v wsl, .bool s.down, .int .i64 s.fuse, Sl.v ksl].setIfInBounds 2 (.bool false)) 63)) := ⟨Keep.set _ (.inl hfd), fun _ h => .inl h⟩
  refine ⟨rfl, ⟨bd, dc, tl, wsl, ksl, ?_⟩, hst⟩
  refine ⟨by rw [set_eq]; rfl, by rw [set_ne _ _ hne.symm]; exact h.hb, h.hc, h.hw.keep (fun a ha => set_ne _ _ (hwb a ha).1), h.hl, h.hk.le hst.le, h.hf, ?_⟩
  obtain ⟨o1, o2, o3, o4, o5, o6, o7⟩ := h.ok
  exact ⟨o1, o2, o3, o4, o5, o6, o7⟩

/-! Clone -/
theorem clone_gen {P : Program} {F : PH} {x : Sl} {t e size bytes ty : Nat} {z : Value} {vs : List Value} {b : Nat} {Q : Value → PH → Prop} (ht : P.underlying t = some (.slice e)) (hsz : tsz P e = some (size, bytes)) (hz : tzero P e = some z) (hzs : z.cells.size = size)
    (hb : F b = none) (hr : RdS F x size vs) (hst : ∀ v ∈ vs, storable v) (hfit : x.len * bytes ≤ 140737488355328) (hlen : x.len ≤ 9223372036854775807)
    (h : ∀ s' F', F.le F' → OwnS F' e size s' vs → s'.len = x.len → (∀ a, s'.base = some a → F a.block = none) → Q s'.v F') :
    runs P (Builtin.append_ #[t, t] ty #[Sl.v ⟨some ⟨b, 0, none⟩, 0, 0⟩, x.v]) (F.set b (.cells #[] e)) Q := by
  have hle := le_set_fresh (F := F) (.cells #[] e) hb
  refine runs_append (olds := []) (news := vs) ht hsz hz hzs ⟨by simp, Nat.le_refl _, fun h => by simp at h⟩ (hr.le hle) hst (by simpa using hfit) (by simpa using hlen) ?_ ?_ ?_
  · intro h1 h2
    simp only at h1 h2
    have hx : x.len = 0 := by omega
    have hv : vs = [] := List.eq_nil_of_length_eq_zero (by rw [hr.len, hx, Nat.zero_mul])
    subst hv
    refine h ⟨_, _, _⟩ _ hle (.inr ⟨b, #[], rfl, set_eq _ _ _, by simp, by simp [hx], by simp [hx], by simp⟩) (by simp) ?_
    rintro a ha
    cases ha
    exact hb
  · intro h1 h2
    simp only at h2
    have hx : x.len = 0 := by omega
    rw [hx] at h1
    simp at h1
  · intro h1 cap b' h2 h3
    simp only [Nat.zero_add] at h1 h2 h3 ⊢
    have hb' : F b' = none := le_none hle h3
    refine h ⟨_, _, _⟩ _ (le_trans' hle (le_set_fresh _ h3)) (.inr ⟨b', _, rfl, set_eq _ _ _, ?_, h2, hr.len, ?_⟩) rfl ?_
    · simp [Builtin.zeroCells, hzs, hr.len]
      rw [← Nat.add_mul]
      congr 1
      omega
    · simp only [List.append_toArray, List.nil_append, Array.toList_append]
      rw [List.take_append_of_le_length (by rw [← hr.len]; simp), List.take_of_length_le (by rw [← hr.len]; simp)]
    · rintro a ha
      cases ha
      exact hb'
theorem RdS.none_len {F : PH} {s : Sl} {size : Nat} {vs : List Value} (h : RdS F s size vs) (hb : s.base = none) : s.len = 0 := by
  rcases Nat.eq_zero_or_pos s.len with h0 | h0
  · exact h0
  · obtain ⟨b, o, h1, _⟩ := h.cells h0
    rw [hb] at h1
    cases h1
theorem RdS.none_nil {F : PH} {s : Sl} {size : Nat} {vs : List Value} (h : RdS F s size vs) (hb : s.base = none) : vs = [] := by
  have h1 := h.len
  rw [h.none_len hb, Nat.zero_mul] at h1
  exact List.eq_nil_of_length_eq_zero h1

/-- What a clone is. -/
def IsClone (F F' : PH) (e size : Nat) (s : Sl) (vs : List Value) : Prop := F.le F' ∧ OwnS F' e size s vs ∧ ∀ a, s.base = some a → F a.block = none
theorem clone5_spec {F : PH} {x : Sl} {vs : List Value} (hr : RdS F x 1 vs) (hst : ∀ v ∈ vs, storable v) (hfit : x.len ≤ 140737488355328) :
    Spec prog 35 #[x.v] F fun v F' => ∃ s, v = Sl.v s ∧ s.len = x.len ∧ IsClone F F' 5 1 s vs := by
  refine c35 ?_
  unfold b35
  refine ⟨fun hb => ?_, fun hb => ?_⟩
  · have hb' : x.base = none := by simpa using hb
    exact ⟨Sl.nil, rfl, (hr.none_len hb').symm, le_refl' _, .inl ⟨rfl, hr.none_nil hb'⟩, fun a ha => by cases ha⟩
  · intro b hbf
    refine atI ?_
    refine clone_gen underlying26 sz5 zr5 rfl hbf hr hst (by omega) (by omega) ?_
    intro s' F' h1 h2 h3 h4
    exact ⟨s', rfl, s', rfl, h3, h1, h2, h4⟩
theorem clone66_spec {F : PH} {x : Sl} {vs : List Value} (hr : RdS F x 65 vs) (hst : ∀ v ∈ vs, storable v) (hfit : x.len ≤ 1000000) :
    Spec prog 36 #[x.v] F fun v F' => ∃ s, v = Sl.v s ∧ s.len = x.len ∧ IsClone F F' 66 65 s vs := by
  refine c36 ?_
  unfold b36
  refine ⟨fun hb => ?_, fun hb => ?_⟩
  · have hb' : x.base = none := by simpa using hb
    exact ⟨Sl.nil, rfl, (hr.none_len hb').symm, le_refl' _, .inl ⟨rfl, hr.none_nil hb'⟩, fun a ha => by cases ha⟩
  · intro b hbf
    refine atI ?_
    refine clone_gen underlying61 sz66 zr66 rfl hbf hr hst (by omega) (by omega) ?_
    intro s' F' h1 h2 h3 h4
    exact ⟨s', rfl, s', rfl, h3, h1, h2, h4⟩
theorem clone3_spec {F : PH} {x : Sl} {vs : List Value} (hr : RdS F x 1 vs) (hst : ∀ v ∈ vs, storable v) (hfit : x.len * 8 ≤ 140737488355328) :
    Spec prog 37 #[x.v] F fun v F' => ∃ s, v = Sl.v s ∧ s.len = x.len ∧ IsClone F F' 3 1 s vs := by
  refine c37 ?_
  unfold b37
  refine ⟨fun hb => ?_, fun hb => ?_⟩
  · have hb' : x.base = none := by simpa using hb
    exact ⟨Sl.nil, rfl, (hr.none_len hb').symm, le_refl' _, .inl ⟨rfl, hr.none_nil hb'⟩, fun a ha => by cases ha⟩
  · intro b hbf
    refine atI ?_
    refine clone_gen underlying37 sz3 zr3 rfl hbf hr hst (by omega) (by omega) ?_
    intro s' F' h1 h2 h3 h4
    exact ⟨s', rfl, s', rfl, h3, h1, h2, h4⟩

/-- A clone's cells lie outside of whatever was there. -/
theorem IsClone.rd {F F' : PH} {e size : Nat} {s : Sl} {vs : List Value} (h : IsClone F F' e size s vs) {fp : Nat → Prop} (hf : ∀ b, fp b → F b ≠ none) : RdS (mns F' fp) s size vs := by
  obtain ⟨h1, h2, h3⟩ := h
  have h4 : OwnS (mns F' fp) e size s vs := h2.keep fun a ha => mns_of fun hb => hf _ hb (h3 a ha)
  exact h4.rd

/-! Fuse -/
theorem fuse_new (h : DRep F d fp n s) {k : Int} {x : Sl} {kept : List Int} (hk : k ≤ 9223372036854775807) (hr : RdS F x 1 (i64s kept)) (hfit : x.len * 8 ≤ 140737488355328) :
    Spec prog 29 #[.pointer (some ⟨d, 0, none⟩), .int .i64 k, x.v] F fun v F' => v = .tuple #[] ∧ DRep (mns F' (fun b => old F b ∧ ¬ fp b)) d fp n (s.setFuse k kept) ∧ Step fp F fp F' := by
  have hdom := h.dom
  obtain ⟨bd, dc, tl, wsl, ksl, h⟩ := h
  have hne := h.ne_db
  have hwb := h.wblock
  have hfd : fp d := (h.hf d).2 (.inl rfl)
  refine c29 ?_
  unfold b29
  refine (clone3_spec hr st_i64s hfit).mono ?_
  rintro v F1 ⟨sl, rfl, hlen, hcl⟩
  have hs1 : Step fp F fp F1 := Step.of_le hcl.1
  have hrd := hcl.rd (fp := fp) hdom
  have hd := hcl.1 _ _ h.hd
  have hb := hcl.1 _ _ h.hb
  refine ⟨sl, rfl, _, rfl, ?_⟩
  refine st1' (b := d) (o := 3) (by simp) hd (by simp) ?_
  refine st1' (b := d) (o := 4) (by simp) (set_eq _ _ _) (by simp) ?_
  rw [set_twice]
  have hst : Step fp F1 fp (F1.set d (.cells ((#[Sl.v ⟨some ⟨bd, 0, none⟩, n * 64, dc⟩, Sl.v wsl, .bool s.down, .int .i64 s.fuse, Sl.v ksl].setIfInBounds 3 (.int .i64 (max k 0))).setIfInBounds 4 (Sl.v sl)) 63)) := ⟨Keep.set _ (.inl hfd), fun _ h => .inl h⟩
  refine ⟨rfl, ⟨bd, dc, tl, wsl, sl, ?_⟩, hs1.trans hst⟩
  obtain ⟨o1, o2, o3, o4, o5, o6, o7⟩ := h.ok
  have hm : ∀ b, fp b → ¬ (old F b ∧ ¬ fp b) := fun b hb hp => hp.2 hb
  refine ⟨by rw [mns_of (hm _ hfd), set_eq]; rfl, by rw [mns_of (hm _ ((h.hf _).2 (.inr (.inl rfl)))), set_ne _ _ hne.symm]; exact hb, h.hc, h.hw.keep (fun a ha => ?_), h.hl, ?_, h.hf, ⟨o1, o2, o3, by simp only [DS.setFuse]; omega, by simp only [DS.setFuse]; omega, o6, o7⟩⟩
  · rw [mns_of (hm _ ((h.hf _).2 (.inr (.inr ⟨a, ha, rfl⟩)))), set_ne _ _ (hwb a ha).1]
    have := hdom a.block ((h.hf _).2 (.inr (.inr ⟨a, ha, rfl⟩)))
    cases hfa : F a.block with
    | none => exact absurd hfa this
    | some o => exact hcl.1 _ _ hfa
  · have h4 := hcl.2.1.keep (G := mns (mns (F1.set d (.cells ((#[Sl.v ⟨some ⟨bd, 0, none⟩, n * 64, dc⟩, Sl.v wsl, .bool s.down, .int .i64 s.fuse, Sl.v ksl].setIfInBounds 3 (.int .i64 (max k 0))).setIfInBounds 4 (Sl.v sl)) 63)) (fun b => old F b ∧ ¬ fp b)) fp) (fun a ha => by
      have h5 := hcl.2.2 a ha
      rw [mns_of (fun hb => hdom _ hb h5), mns_of (fun hb => hb.1 h5), set_ne _ _ (fun e => hdom d hfd (by rw [← e]; exact h5))])
    exact h4.rd
theorem fuse_spec (h : DRep F d fp n s) {k : Int} {x : Sl} {kept : List Int} (hk : k ≤ 9223372036854775807) (hr : RdS F x 1 (i64s kept)) (hfit : x.len * 8 ≤ 140737488355328) :
    Spec prog 29 #[.pointer (some ⟨d, 0, none⟩), .int .i64 k, x.v] F fun v F' => v = .tuple #[] ∧ DRep F' d fp n (s.setFuse k kept) ∧ Step fp F fp F' :=
  (fuse_new h hk hr hfit).mono fun _ _ ⟨h1, h2, h3⟩ => ⟨h1, h2.le (mns_le _ _), h3⟩

/-! New -/
theorem new_spec {k : Int} (F : PH) (hk : -9223372036854775808 ≤ k) (hk2 : k ≤ 9223372036854775807) : Spec prog 21 #[.int .i64 k] F fun v F' =>
    (k < 1 ∧ v = .tuple #[.pointer none, .int .i64 1] ∧ F' = F) ∨ (65536 < k ∧ v = .tuple #[.pointer none, .int .i64 2] ∧ F' = F) ∨
    (1 ≤ k ∧ k ≤ 65536 ∧ ∃ d fp, v = .tuple #[.pointer (some ⟨d, 0, none⟩), .int .i64 0] ∧ F.le F' ∧ DRep F' d fp k.toNat ⟨List.replicate (k.toNat * 64) 0, [], false, 0, []⟩ ∧ ∀ b, fp b → F b = none) := by
  refine c21 ?_
  unfold b21
  refine ⟨fun h1 => .inl ⟨h1, rfl, rfl⟩, fun h1 => ⟨fun h2 => .inr (.inl ⟨h2, rfl, rfl⟩), fun h2 => ?_⟩⟩
  have e : IntKind.i64.wrap (k * 64) = k * 64 := w64_eq (by omega) (by omega)
  rw [e]
  refine runs_makeSlice underlying26 sz5 zr5 rfl (by omega) (by omega) (by omega) (by omega) ?_
  intro g hg
  rw [zc1 _ rfl]
  refine ⟨_, rfl, ?_⟩
  intro b hb
  refine atI ?_
  have hgb : b ≠ g := by
    rintro rfl
    rw [set_eq] at hb
    cases hb
  have hb' : F b = none := by rw [set_ne _ _ hgb] at hb; exact hb
  have e2 : (k * 64).toNat = k.toNat * 64 := by omega
  refine .inr (.inr ⟨by omega, by omega, b, fun x => x = b ∨ x = g, rfl, le_trans' (le_set_fresh _ hg) (le_set_fresh _ hb), ⟨g, k.toNat * 64, [], Sl.nil, Sl.nil, ?_⟩, ?_⟩)
  · refine ⟨by rw [set_eq, e2]; rfl, by rw [set_ne _ _ hgb.symm, set_eq, e2]; simp, ⟨Nat.le_refl _, by simp⟩, .inl ⟨rfl, rfl⟩, rfl, RdS.nil _ _, ?_, ⟨by omega, by omega, by simp, by simp, by simp, by simp, by simp⟩⟩
    intro x
    constructor
    · rintro (h | h)
      · exact .inl h
      · exact .inr (.inl h)
    · rintro (h | h | ⟨a, ha, _⟩)
      · exact .inl h
      · exact .inr h
      · cases ha
  · rintro x (rfl | rfl)
    · exact hb'
    · exact hg
end
end Go.Proofs.Ythnolhcknhhipaa

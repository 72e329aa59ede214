/-
  The disk: the law DiskDurable.
-/
import Derived.Test.YthnolhcknhhipaaDh
namespace Go.Proofs.Ythnolhcknhhipaa
open Go Go.Proofs.Try

/-! plain: what a crash leaves -/
def lat (ws : List (Int × List Int)) (j : Nat) : List Int := (ws.filter (fun w => decide (w.1 = (j : Int)))).map (fun w => w.2.headD 0)
theorem lat_snoc (ws : List (Int × List Int)) (a j : Nat) (x : Int) : lat (ws ++ [((a : Int), List.replicate 64 x)]) j = lat ws j ++ (if a = j then [x] else []) := by
  unfold lat
  rw [List.filter_append, List.map_append]
  by_cases h : a = j
  · subst h; simp [List.replicate]
  · rw [if_neg h, List.filter_cons_of_neg]
    · simp
    · simp; omega
theorem lat_mem {ws : List (Int × List Int)} {w : Int × List Int} {x : Int} {j : Nat} (h : w ∈ ws) (h1 : w.1 = j) (h2 : w.2 = List.replicate 64 x) : x ∈ lat ws j := by
  unfold lat
  rw [List.mem_map]
  exact ⟨w, List.mem_filter.2 ⟨h, by simpa using h1⟩, by rw [h2]; rfl⟩
theorem crN_get {ws : List (Int × List Int)} {kl D : List Int} (hws : ∀ w ∈ ws, 0 ≤ w.1 ∧ w.1 < ((4 : Nat) : Int) ∧ w.2.length = 64) (hrep : ∀ w ∈ ws, ∃ x, w.2 = List.replicate 64 x) (hD : D.length = 4 * 64) {i : Nat} (hi : i < 256) :
    ∀ k, (crN ws kl D k)[i]? = D[i]? ∨ ∃ x ∈ lat ws (i / 64), (crN ws kl D k)[i]? = some x := by
  intro k
  induction k with
  | zero => exact .inl rfl
  | succ k ih =>
    unfold crN
    cases hk : ws[k]? with
    | none => exact ih
    | some w =>
      have hm := List.mem_of_getElem? hk
      have h1 := hws w hm
      obtain ⟨x, hx⟩ := hrep w hm
      simp only
      unfold crStep
      cases hq : kl[k]? with
      | none => exact ih
      | some q =>
        simp only
        have hl := crN_len (kept := kl) hws hD k
        have hlt : (w.2.take (min (max q 0) 64).toNat).length = (min (max q 0) 64).toNat := by simp [h1.2.2]; omega
        rw [ovr_get (by omega)]
        split
        · rename_i hr
          right
          refine ⟨x, lat_mem hm (by omega) hx, ?_⟩
          rw [List.getElem?_take_of_lt (by omega), hx, List.getElem?_replicate, if_pos (by omega)]
        · exact ih
theorem sec_all {D : List Int} (h : D.length = 4 * 64) : sec D 0 ++ sec D 1 ++ sec D 2 ++ sec D 3 = D := by
  apply List.ext_getElem?
  intro i
  have l0 := sec_len (a := 0) h (by omega)
  have l1 := sec_len (a := 1) h (by omega)
  have l2 := sec_len (a := 2) h (by omega)
  have l3 := sec_len (a := 3) h (by omega)
  by_cases h3 : i < 192
  · rw [List.getElem?_append_left (by simp [l0, l1, l2]; omega)]
    by_cases h2 : i < 128
    · rw [List.getElem?_append_left (by simp [l0, l1]; omega)]
      by_cases h1 : i < 64
      · rw [List.getElem?_append_left (by omega), sec_get h1]; congr 1; omega
      · rw [List.getElem?_append_right (by omega), l0, sec_get (by omega)]; congr 1; omega
    · rw [List.getElem?_append_right (by simp [l0, l1]; omega), List.length_append, l0, l1, sec_get (by omega), show 2 * 64 + (i - (64 + 64)) = i by omega]
  · rw [List.getElem?_append_right (by simp [l0, l1, l2]; omega), List.length_append, List.length_append, l0, l1, l2]
    by_cases h4 : i < 256
    · rw [sec_get (by omega), show 3 * 64 + (i - (64 + 64 + 64)) = i by omega]
    · rw [List.getElem?_eq_none (by omega), List.getElem?_eq_none (by omega)]
theorem Live.view_dur {s : DS} (h : Live s) (hok : s.ok 4) (hws : s.ws = []) : s.view 4 = s.dur := by
  have r : ∀ a : Nat, a < 4 → (s.read 4 a).1 = sec s.dur a := fun a ha => by rw [h.read ha, hws]; rfl
  have r0 := r 0 (by omega)
  have r1 := r 1 (by omega)
  have r2 := r 2 (by omega)
  have r3 := r 3 (by omega)
  simp only [DS.view, r0, r1, r2, r3, List.nil_append]
  exact sec_all hok.dur

/-! without a kept list -/
theorem RdS.empty {F G : PH} {sl : Sl} {size : Nat} (h : RdS F sl size []) (hs : 0 < size) : RdS G sl size [] := by
  have h0 : sl.len = 0 := by
    rcases Nat.eq_zero_or_pos sl.len with h1 | h1
    · exact h1
    · have := h.len
      have h2 := Nat.mul_pos h1 hs
      simp at this
      omega
  exact ⟨by simp [h0], h.cap, fun hp => by omega⟩
theorem DRep.keep0 {F G : PH} {d n : Nat} {fp : Nat → Prop} {s : DS} (h : DRep F d fp n s) (h0 : s.kept = []) (hk : ∀ b, fp b → G b = F b) : DRep G d fp n s := by
  obtain ⟨bd, dc, tl, wsl, ksl, h⟩ := h
  refine ⟨bd, dc, tl, wsl, ksl, (hk d ((h.hf d).2 (.inl rfl))).trans h.hd, (hk bd ((h.hf bd).2 (.inr (.inl rfl)))).trans h.hb, h.hc, h.hw.keep (fun a ha => hk _ ((h.hf _).2 (.inr (.inr ⟨a, ha, rfl⟩)))), h.hl, ?_, h.hf, h.ok⟩
  have := h.hk
  rw [h0] at this ⊢
  exact this.empty (by omega)
theorem Live.write_kept {s : DS} (h : Live s) {n : Nat} {a : Int} {l : List Int} : (s.write n a l).1.kept = s.kept := by
  unfold DS.write
  split
  · rfl
  · rw [h.ready]; rfl

/-! the loop -/
def fpx (fp : Nat → Prop) (b11 : Nat) (S : Nat → Sl) : Nat → Prop := fun b => fp b ∨ b = b11 ∨ ∃ j a, (S j).base = some a ∧ a.block = b
structure Lm (F0 F : PH) (d : Nat) (fp : Nat → Prop) (b11 : Nat) (S : Nat → Sl) (t : DS) (L : Nat → List Int) : Prop where
  le : F0.le F
  rep : DRep F d fp 4 t
  new : ∀ b, fpx fp b11 S b → F0 b = none
  n11 : ¬ fp b11
  cel : F b11 = some (.cells #[(S 0).v, (S 1).v, (S 2).v, (S 3).v] 38 (0, 0))
  own : ∀ j, OwnS F 5 1 (S j) (u8s (L j))
  dis : ∀ j a, (S j).base = some a → a.block ≠ b11 ∧ ¬ fp a.block
  sep : ∀ i j a a', i ≠ j → (S i).base = some a → (S j).base = some a' → a.block ≠ a'.block
theorem Lm.dom {F0 F : PH} {d b11 : Nat} {fp : Nat → Prop} {S : Nat → Sl} {t : DS} {L : Nat → List Int} (h : Lm F0 F d fp b11 S t L) : ∀ j a, (S j).base = some a → F a.block ≠ none := by
  intro j a ha
  rcases h.own j with ⟨e, _⟩ | ⟨b, cur, h1, h2, _⟩
  · rw [e] at ha; cases ha
  · rw [ha] at h1; cases h1; rw [h2]; simp
theorem Lm.step {F0 F G : PH} {d b11 : Nat} {fp fq : Nat → Prop} {S : Nat → Sl} {t t' : DS} {L : Nat → List Int} (h : Lm F0 F d fp b11 S t L) (hr : DRep G d fq 4 t') (hs : Step fp F fq G) : Lm F0 G d fq b11 S t' L ∧ Step (fpx fp b11 S) F (fpx fq b11 S) G := by
  have hst : Step (fpx fp b11 S) F (fpx fq b11 S) G := by
    refine ⟨fun b o hb hn => hs.keep b o hb (fun hp => hn (.inl hp)), fun b hb => ?_⟩
    rcases hb with hb | hb
    · rcases hs.new b hb with h1 | h1
      · exact .inl (.inl h1)
      · exact .inr h1
    · exact .inl (.inr hb)
  have nq : ∀ b, F b ≠ none → ¬ fp b → ¬ fq b := fun b hb hn hq => by
    rcases hs.new b hq with h1 | h1
    · exact hn h1
    · exact hb h1
  have key : ∀ b, F b ≠ none → ¬ fp b → G b = F b := fun b hb hn => by
    cases hf : F b with
    | none => exact absurd hf hb
    | some o => exact hs.keep b o hf hn
  obtain ⟨h1, h2⟩ := hst.fresh h.le h.new
  have hc : F b11 ≠ none := by rw [h.cel]; simp
  exact ⟨⟨h1, hr, h2, nq _ hc h.n11, (key _ hc h.n11).trans h.cel, fun j => (h.own j).keep fun a ha => key _ (h.dom j a ha) (h.dis j a ha).2,
    fun j a ha => ⟨(h.dis j a ha).1, nq _ (h.dom j a ha) (h.dis j a ha).2⟩, h.sep⟩, hst⟩
theorem set4 {x0 x1 x2 x3 y : Value} {a : Nat} : (#[x0, x1, x2, x3] : Array Value).setIfInBounds a y = #[if a = 0 then y else x0, if a = 1 then y else x1, if a = 2 then y else x2, if a = 3 then y else x3] := by
  match a with
  | 0 => rfl
  | 1 => rfl
  | 2 => rfl
  | 3 => rfl
  | a + 4 => simp
theorem Lm.push {F0 F : PH} {d b11 b : Nat} {o : Obj} {fp : Nat → Prop} {S : Nat → Sl} {t : DS} {L : Nat → List Int} (h : Lm F0 F d fp b11 S t L) (hk : t.kept = []) {a : Nat} (ha : a < 4) {s' : Sl} {x : Int}
    (ho : OwnS (F.set b o) 5 1 s' (u8s (L a) ++ [.int .u8 x])) (hbase : ∀ a', s'.base = some a' → a'.block = b) (hb : (∃ a', (S a).base = some a' ∧ a'.block = b) ∨ F b = none) :
    Lm F0 ((F.set b o).set b11 (.cells (#[(S 0).v, (S 1).v, (S 2).v, (S 3).v].setIfInBounds a s'.v) 38)) d fp b11 (fun j => if j = a then s' else S j) t (fun j => L j ++ if a = j then [x] else []) ∧
    Step (fpx fp b11 S) F (fpx fp b11 (fun j => if j = a then s' else S j)) ((F.set b o).set b11 (.cells (#[(S 0).v, (S 1).v, (S 2).v, (S 3).v].setIfInBounds a s'.v) 38)) := by
  have hc : F b11 ≠ none := by rw [h.cel]; simp
  have hbn : b ≠ b11 ∧ ¬ fp b := by
    rcases hb with ⟨a', h1, rfl⟩ | hb
    · exact h.dis a a' h1
    · exact ⟨fun e => hc (by rw [← e]; exact hb), fun hp => h.rep.dom b hp hb⟩
  have hx : fpx fp b11 S b ∨ F b = none := by
    rcases hb with ⟨a', h1, h2⟩ | hb
    · exact .inl (.inr (.inr ⟨a, a', h1, h2⟩))
    · exact .inr hb
  have hne : ∀ j a', j ≠ a → (S j).base = some a' → a'.block ≠ b := fun j a' hj h1 => by
    rcases hb with ⟨a2, h2, rfl⟩ | hb
    · exact h.sep j a a' a2 hj h1 h2
    · exact fun e => h.dom j a' h1 (by rw [e]; exact hb)
  have hst : Step (fpx fp b11 S) F (fpx fp b11 (fun j => if j = a then s' else S j)) ((F.set b o).set b11 (.cells (#[(S 0).v, (S 1).v, (S 2).v, (S 3).v].setIfInBounds a s'.v) 38)) := by
    refine ⟨fun y o' hy hn => ?_, fun y hy => ?_⟩
    · have h1 : y ≠ b11 := fun e => hn (.inr (.inl e))
      have h2 : y ≠ b := fun e => by
        rcases hx with h3 | h3
        · exact hn (e ▸ h3)
        · rw [e, h3] at hy; cases hy
      rw [set_ne _ _ h1, set_ne _ _ h2]
      exact hy
    · rcases hy with hy | hy | ⟨j, a', h1, h2⟩
      · exact .inl (.inl hy)
      · exact .inl (.inr (.inl hy))
      · by_cases hj : j = a
        · simp only [hj, if_pos] at h1
          rw [← h2, hbase a' h1]
          exact hx
        · simp only [hj, if_false] at h1
          exact .inl (.inr (.inr ⟨j, a', h1, h2⟩))
  obtain ⟨h1, h2⟩ := hst.fresh h.le h.new
  refine ⟨⟨h1, h.rep.keep0 hk (fun y hy => ?_), h2, h.n11, ?_, fun j => ?_, fun j a' h3 => ?_, fun i j a1 a2 hij h3 h4 => ?_⟩, hst⟩
  · rw [set_ne _ _ (fun e => h.n11 (by rw [← e]; exact hy)), set_ne _ _ (fun e => hbn.2 (by rw [← e]; exact hy))]
  · rw [set_eq, set4]
    have e : ∀ j : Nat, (if a = j then s'.v else (S j).v) = (if j = a then s' else S j).v := fun j => by
      by_cases hj : a = j
      · rw [if_pos hj, if_pos hj.symm]
      · rw [if_neg hj, if_neg (Ne.symm hj)]
    rw [e 0, e 1, e 2, e 3]
  · by_cases hj : j = a
    · subst hj
      simp only [if_true]
      refine OwnS.keep (F := F.set b o) (by simpa using ho) (fun a' h3 => set_ne _ _ (by rw [hbase a' h3]; exact hbn.1))
    · simp only [hj, if_false, Ne.symm hj, List.append_nil]
      exact (h.own j).keep fun a' h3 => by rw [set_ne _ _ (h.dis j a' h3).1, set_ne _ _ (hne j a' hj h3)]
  · by_cases hj : j = a
    · simp only [hj, if_true] at h3
      rw [hbase a' h3]
      exact hbn
    · simp only [hj, if_false] at h3
      exact h.dis j a' h3
  · by_cases hi : i = a
    · have hj : j ≠ a := fun e => hij (by rw [hi, e])
      simp only [hi, if_true] at h3
      simp only [hj, if_false] at h4
      rw [hbase a1 h3]
      exact (hne j a2 hj h4).symm
    · simp only [hi, if_false] at h3
      by_cases hj : j = a
      · simp only [hj, if_true] at h4
        rw [hbase a2 h4]
        exact hne i a1 hi h3
      · simp only [hj, if_false] at h4
        exact h.sep i j a1 a2 hij h3 h4

theorem crash_live {t : DS} (h : Live t) (kl : List Int) : Live (t.crash kl).power ∧ (t.crash kl).power.ws = [] ∧ (t.crash kl).power.dur = crN t.ws kl t.dur t.ws.length ∧ (t.crash kl).down = true := by
  unfold DS.crash
  rw [h.up]
  exact ⟨⟨rfl, rfl⟩, rfl, rfl, rfl⟩

theorem durable_spec {F : PH} {l vm kept : Sl} {ops ops2 : List OpD} {kl : List Int} (h : OpsRd F l ops) (h2 : OpsRd F vm ops2) (h3 : RdS F kept 1 (i64s kl)) : Spec prog 4 #[l.v, vm.v, kept.v] F fun v F' => v = .bool true ∧ F.le F' := by
  refine c4 ?_
  unfold b4
  refine (sanity_spec F).mono ?_
  rintro v F1 ⟨rfl, hle1⟩
  refine ⟨_, rfl, fun h => (by cases h), fun _ => ?_⟩
  refine (prepared_spec (h.le hle1)).mono ?_
  rintro v F2 ⟨d, fp, rfl, hle2, hrep, hnew, hws⟩
  have W : Wd F F2 d fp 4 (prep ops) := ⟨le_trans' hle1 hle2, hrep, fun b hb => le_none hle1 (hnew b hb)⟩
  clear hle1 hle2 hrep hnew
  have hlive := prep_live ops
  have hkept := prep_kept ops
  generalize prep ops = s at *
  refine ⟨_, rfl, ?_⟩
  refine (flush_spec W.rep).mono ?_
  rintro v F3 ⟨rfl, fp2, hrep, hst⟩
  replace W := W.step hrep hst
  clear hrep hst
  refine ⟨_, rfl, ?_⟩
  have htl := hlive.flush_live
  have htw : s.flush.1.ws = [] := by rw [hlive.flush]
  have htk : s.flush.1.kept = [] := by rw [hlive.flush]; exact hkept
  have hz : s.flush.2 = 0 := by rw [hlive.flush]
  rw [hz]
  generalize s.flush.1 = t at *
  refine (contents_with W.rep).mono ?_
  rintro v F4 ⟨sb, rfl, hb, hrep, hst⟩
  replace W := W.step hrep hst; clear hrep hst
  rw [htl.view_dur W.rep.ok htw] at hb
  refine ⟨sb, rfl, ?_⟩
  intro b11 h11
  refine atI ?_
  refine stW (set_eq _ _ _) rfl rfl (by simp [storable]) ?_
  rw [set_twice]
  have hle5 := le_set_fresh (.cells #[Value.slice none 0 0, Value.slice none 0 0, Value.slice none 0 0, Value.slice none 0 0] 38) h11
  have hst5 : Step fp2 F4 fp2 _ := Step.of_le hle5
  have W5 := W.step (W.rep.le hle5) hst5
  have h11F : F b11 = none := le_none W.le h11
  have hM : Lm F (F4.set b11 (.cells #[Value.slice none 0 0, Value.slice none 0 0, Value.slice none 0 0, Value.slice none 0 0] 38)) d fp2 b11 (fun _ => Sl.nil) t (fun _ => []) := by
    refine ⟨W5.le, W5.rep, fun b hb => ?_, fun hp => W.rep.dom b11 hp h11, set_eq _ _ _, fun _ => .inl ⟨rfl, rfl⟩, fun _ _ h => (by cases h), fun _ _ _ _ _ h => (by cases h)⟩
    rcases hb with hb | rfl | ⟨j, a, ha, _⟩
    · exact W5.new b hb
    · exact h11F
    · cases ha
  have hb6 : RdS (mns (F4.set b11 (.cells #[Value.slice none 0 0, Value.slice none 0 0, Value.slice none 0 0, Value.slice none 0 0] 38)) (fpx fp2 b11 (fun _ => Sl.nil))) sb 1 (u8s t.dur) := by
    refine hb.le (fun b o hbo => ?_)
    by_cases hp : fp2 b
    · simp [mns, hp] at hbo
    · rw [mns_of hp] at hbo
      rw [mns_of]
      · exact hle5 b o hbo
      · rintro (hp2 | rfl | ⟨j, a, ha, _⟩)
        · exact hp hp2
        · rw [h11] at hbo; cases hbo
        · cases ha
  have hlen2 := h2.len
  have hbig2 := h2.big
  have hdl := W.rep.ok.dur
  generalize hD : t.dur = D at *
  clear hb W W5 hle5 hst5
  have fin : ∀ (F' : PH) (fq : Nat → Prop) (S : Nat → Sl) (u : DS), Lm F F' d fq b11 S u (lat u.ws) → Live u → u.kept = [] → u.dur = D → (∀ w ∈ u.ws, ∃ x, w.2 = List.replicate 64 x) → u.ws.length ≤ 10 → RdS (mns F' (fpx fq b11 S)) sb 1 (u8s D) →
      b4j1 kept (some ⟨d, 0, none⟩) 0 sb b11 (fun v F' => v = .bool true ∧ F.le F') F' := by
    intro F' fq S u hm hul huk hud hur huw hsb
    unfold b4j1
    have hok := hm.rep.ok
    refine (crash_spec hm.rep (h3.le (le_mns_new hm.le (fun b hb => hm.new b (.inl hb))))).mono ?_
    rintro v G1 ⟨rfl, fq1, hrep, hst⟩
    obtain ⟨hm1, hs1⟩ := hm.step hrep hst
    replace hsb := hsb.le hs1.le
    clear hrep hst hm hs1
    refine ⟨rfl, ?_⟩
    refine (read_with hm1.rep).mono ?_
    rintro v G2 ⟨sr, rfl, _, hrep, hst, _⟩
    obtain ⟨hm2, hs1⟩ := hm1.step hrep hst
    replace hsb := hsb.le hs1.le
    clear hrep hst hm1 hs1
    obtain ⟨hvl, hvw, hvd, hdn⟩ := crash_live hul kl
    have hr340 : ((u.crash kl).read 4 0).2 = 340 := by
      unfold DS.read
      rw [if_neg (by decide), if_pos hdn]
    rw [hr340]
    refine ⟨sr, _, rfl, ?_⟩
    refine (power_spec hm2.rep).mono ?_
    rintro v G3 ⟨rfl, hrep, hst⟩
    obtain ⟨hm3, hs1⟩ := hm2.step hrep hst
    replace hsb := hsb.le hs1.le
    clear hrep hst hm2 hs1
    refine ⟨rfl, ?_⟩
    generalize (u.crash kl).power = y at *
    refine (contents_with hm3.rep).mono ?_
    rintro v G4 ⟨sa, rfl, ha, hrep, hst⟩
    obtain ⟨hm4, hs1⟩ := hm3.step hrep hst
    replace hsb := hsb.le hs1.le
    clear hrep hst hm3 hs1
    rw [hvl.view_dur hm4.rep.ok hvw] at ha
    have hlb := hsb.len
    have hla := ha.len
    have hyl := hm4.rep.ok.dur
    simp at hlb hla
    refine ⟨sa, rfl, fun h => absurd rfl h, fun _ => ⟨fun h => absurd rfl h, fun _ => ⟨fun h => absurd (by omega) h, fun _ => ⟨fun h => absurd (by omega) h, fun _ => ?_⟩⟩⟩⟩
    refine (pending_spec hm4.rep).mono ?_
    rintro v G5 ⟨rfl, rfl⟩
    refine ⟨_, rfl, fun h => absurd (by rw [hvw]; rfl) h, fun _ => ?_⟩
    refine ⟨fun m i G => ∃ k : Nat, i = k ∧ k ≤ 256 ∧ m = 256 - k ∧ G = G5, 256, ⟨0, rfl, by omega, rfl, rfl⟩, ?_⟩
    rintro m i G ⟨k, rfl, hk, rfl, rfl⟩
    unfold b4L1
    refine ⟨fun hlt => ?_, fun _ => ⟨rfl, hm4.le⟩⟩
    have hk2 : k < 256 := by omega
    obtain ⟨q1, o1, hq1, hl1, hc1⟩ := (ha.le (mns_le _ _)).at (i := k) (by omega)
    obtain ⟨q2, o2, hq2, hl2, hc2⟩ := (hsb.le (mns_le _ _)).at (i := k) (by omega)
    refine ⟨_, hq1, by omega, by omega, _, hc1, _, hq2, by omega, by omega, _, hc2, ?_⟩
    have hdiv : k / 64 < 4 := by omega
    have hown := hm4.own (k / 64)
    have hslen := hown.rd.len
    simp at hslen
    have hll : (lat u.ws (k / 64)).length ≤ 10 := by
      refine Nat.le_trans ?_ huw
      unfold lat
      rw [List.length_map]
      exact List.length_filter_le _ _
    have hcel : G.cell (Addr.add ⟨b11, 0, none⟩ (Int.toNat (IntKind.i64.wrap (Int.tdiv (k : Int) 64)) * 1)) = some (S (k / 64)).v := by
      rw [tdiv64 (by omega), add_mk, cell_eq hm4.cel]
      have : k / 64 = 0 ∨ k / 64 = 1 ∨ k / 64 = 2 ∨ k / 64 = 3 := by omega
      rcases this with e | e | e | e <;> rw [e] <;> rfl
    have hgood : y.dur[k] = D[k] ∨ ∃ x ∈ lat u.ws (k / 64), y.dur[k] = x := by
      rw [← hud] at hdl
      have := crN_get (kl := kl) hok.ws hur hdl hk2 u.ws.length
      rw [← hvd, hud] at this
      rcases this with e | ⟨x, hx, e⟩
      · left
        rw [List.getElem?_eq_getElem (by omega), List.getElem?_eq_getElem (by omega)] at e
        exact Option.some.inj e
      · right
        rw [List.getElem?_eq_getElem (by omega)] at e
        exact ⟨x, hx, Option.some.inj e⟩
    refine ⟨fun m2 ok j G' => ∃ p : Nat, j = p ∧ p ≤ (lat u.ws (k / 64)).length ∧ m2 = (lat u.ws (k / 64)).length - p ∧ G' = G ∧ (ok = true ∨ ∃ p', p ≤ p' ∧ (lat u.ws (k / 64))[p']? = some y.dur[k]),
      (lat u.ws (k / 64)).length, ⟨0, rfl, by omega, rfl, rfl, ?_⟩, ?_⟩
    · rcases hgood with e | ⟨x, hx, e⟩
      · exact .inl (decide_eq_true e)
      · obtain ⟨p', hp'⟩ := List.getElem?_of_mem hx
        exact .inr ⟨p', by omega, by rw [hp', e]⟩
    · rintro m2 ok j G' ⟨p, rfl, hp, rfl, rfl, hor⟩
      unfold b4L2
      refine ⟨by rw [tdiv64 (by omega)]; omega, by rw [tdiv64 (by omega)]; omega, _, hcel, fun hlt2 => ⟨fun hok1 => ?_, fun hok0 => ?_⟩, fun hge2 => ?_⟩
      · unfold b4j5
        exact ⟨(lat u.ws (k / 64)).length - (p + 1), by omega, p + 1, w64s (by omega), by omega, rfl, rfl, .inl rfl⟩
      · have hp3 : p < (lat u.ws (k / 64)).length := by omega
        obtain ⟨q3, o3, hq3, hl3, hc3⟩ := hown.rd.at (i := p) hp3
        refine ⟨_, hq1, by omega, by omega, _, hc1, by rw [tdiv64 (by omega)]; omega, by rw [tdiv64 (by omega)]; omega, _, hcel, _, hq3, by omega, by omega, _, hc3, ?_⟩
        unfold b4j5
        refine ⟨(lat u.ws (k / 64)).length - (p + 1), by omega, p + 1, w64s (by omega), by omega, rfl, rfl, ?_⟩
        rcases hor with e | ⟨p', hp1, hp2⟩
        · rw [e] at hok0; cases hok0
        · by_cases hpp : p' = p
          · subst hpp
            rw [List.getElem?_eq_getElem hp3] at hp2
            exact .inl (decide_eq_true (Option.some.inj hp2).symm)
          · exact .inr ⟨p', by omega, hp2⟩
      · unfold b4j4
        have hok1 : ok = true := by
          rcases hor with e | ⟨p', hp1, hp2⟩
          · exact e
          · have := (List.getElem?_eq_some_iff.1 hp2).1
            omega
        subst hok1
        refine ⟨fun h => (by cases h), fun _ => ?_⟩
        unfold b4j3
        exact ⟨256 - (k + 1), by omega, k + 1, w64s (by omega), by omega, rfl, rfl⟩
  refine ⟨fun m i F' => ∃ (k : Nat) (fq : Nat → Prop) (S : Nat → Sl) (u : DS), i = k ∧ k ≤ 10 ∧ k ≤ ops2.length ∧ m = 10 - k ∧ Lm F F' d fq b11 S u (lat u.ws) ∧ Live u ∧ u.kept = [] ∧ u.dur = D ∧ (∀ w ∈ u.ws, ∃ x, w.2 = List.replicate 64 x) ∧ u.ws.length = k ∧ RdS (mns F' (fpx fq b11 S)) sb 1 (u8s D),
    10, ⟨0, fp2, fun _ => Sl.nil, t, rfl, by omega, by omega, rfl, by rw [htw]; exact hM, htl, htk, hD, by rw [htw]; simp, by rw [htw]; rfl, hb6⟩, ?_⟩
  rintro m i F' ⟨k, fq, S, u, rfl, hk, hkl, rfl, hm, hul, huk, hud, hur, huw, hsb⟩
  unfold b4L3
  refine ⟨fun hlt => ⟨fun hlt2 => ?_, fun hge => ?_⟩, fun hge => ?_⟩
  · have hk' : k < ops2.length := by omega
    obtain ⟨b, o, hbb, hc⟩ := (h2.le hm.le).field hk'
    have hat := hc 1 _ rfl
    have hfill := hc 2 _ rfl
    refine ⟨_, hbb, by omega, hlt, ops2[k].at_, by simpa [Nat.add_assoc] using hat, _, hbb, by omega, hlt, ops2[k].fill, by simpa [Nat.add_assoc] using hfill, ?_⟩
    refine (filled_with hm.rep).mono ?_
    rintro v G1 ⟨sl, rfl, hl64, hc64, hrd, hrep, hst⟩
    obtain ⟨hm1, hs1⟩ := hm.step hrep hst
    replace hsb := hsb.le hs1.le
    clear hrep hst hm hs1 hc hat hfill
    refine ⟨sl, rfl, ?_⟩
    rw [mod4_wrap]
    obtain ⟨a, ha⟩ : ∃ a : Nat, mod4 ops2[k].at_ = a := ⟨(mod4 ops2[k].at_).toNat, by have := mod4_range ops2[k].at_; omega⟩
    have ha4 : a < 4 := by have := mod4_range ops2[k].at_; omega
    rw [ha]
    refine (write_spec hm1.rep hrd (by omega) (by simp)).mono ?_
    rintro v G2 ⟨rfl, fq2, hrep, hst⟩
    obtain ⟨hm2, hs1⟩ := hm1.step hrep hst
    replace hsb := hsb.le hs1.le
    clear hrep hst hm1 hs1 hrd
    rw [hul.write (n := 4) (a := (a : Int)) (l := List.replicate 64 ops2[k].fill) (by omega) (by omega) (by simp)] at hm2 ⊢
    refine ⟨_, rfl, by omega, by omega, S a, ?_, ?_⟩
    · rw [add_mk, cell_eq hm2.cel]
      have : a = 0 ∨ a = 1 ∨ a = 2 ∨ a = 3 := by omega
      rcases this with e | e | e | e <;> rw [e] <;> rfl
    obtain ⟨b', o', hbb', hc'⟩ := (h2.le hm2.le).field hk'
    rw [hbb] at hbb'
    cases hbb'
    have hfill2 := hc' 2 _ rfl
    refine ⟨_, hbb, by omega, hlt, ops2[k].fill, by simpa [Nat.add_assoc] using hfill2, ?_⟩
    intro b66 hb66
    refine atI ?_
    have hle6 := le_set_fresh (.cells #[.int .u8 ops2[k].fill] 5) hb66
    have hst6 : Step fq2 G2 fq2 _ := Step.of_le hle6
    obtain ⟨hm3, hs1⟩ := hm2.step (hm2.rep.le hle6) hst6
    replace hsb := hsb.le hs1.le
    clear hs1 hc' hfill2
    have hone : RdS (G2.set b66 (.cells #[.int .u8 ops2[k].fill] 5)) ⟨some ⟨b66, 0, none⟩, 1, 1⟩ 1 [.int .u8 ops2[k].fill] := RdS.new (set_eq _ _ _) (by simp) (by simp) (Nat.le_refl _)
    have hll : (lat u.ws a).length ≤ 10 := by
      refine Nat.le_trans ?_ (show u.ws.length ≤ 10 by omega)
      unfold lat
      rw [List.length_map]
      exact List.length_filter_le _ _
    have hown := hm3.own a
    have hslen := hown.rd.len
    simp at hslen
    refine own_append underlying26 sz5 zr5 rfl (by decide) hown hone (by simp) (by simp [storable]) (by simp only; omega) (by simp only; omega) ?_
    rintro s' G4 bb ob rfl hown' hlen' hbase hbb4
    obtain ⟨hm5, hs5⟩ := hm3.push huk ha4 hown' hbase hbb4
    replace hsb := hsb.le hs5.le
    refine ⟨s', rfl, by omega, by omega, ?_⟩
    have hc11 : ((G2.set b66 (.cells #[.int .u8 ops2[k].fill] 5)).set bb ob) b11 = some (.cells #[(S 0).v, (S 1).v, (S 2).v, (S 3).v] 38 (0, 0)) := by
      rw [set_ne]
      · exact hm3.cel
      · rintro rfl
        rcases hbb4 with ⟨a', h1, h2⟩ | h1
        · exact (hm3.dis a a' h1).1 h2
        · rw [hm3.cel] at h1; cases h1
    refine st1' (b := b11) (o := a) (by rw [add_mk]; simp) hc11 (by simp; omega) ?_
    refine ⟨10 - (k + 1), by omega, k + 1, fq2, fun j => if j = a then s' else S j, { u with ws := u.ws ++ [((a : Int), List.replicate 64 ops2[k].fill)] }, w64s (by omega), by omega, by omega, rfl, ?_, ⟨hul.up, hul.fuse⟩, huk, hud, ?_, by simp [huw], hsb⟩
    · have : (fun j => lat u.ws j ++ if a = j then [ops2[k].fill] else []) = lat (u.ws ++ [((a : Int), List.replicate 64 ops2[k].fill)]) := by
        funext j
        exact (lat_snoc _ _ _ _).symm
      show Lm _ _ _ _ _ _ _ (lat (u.ws ++ [((a : Int), List.replicate 64 ops2[k].fill)]))
      rw [← this]
      exact hm5
    · intro w hw
      rcases List.mem_append.1 hw with hw | hw
      · exact hur w hw
      · rw [List.mem_singleton] at hw
        subst hw
        exact ⟨_, rfl⟩
  · exact fin F' fq S u hm hul huk hud hur (by omega) hsb
  · exact fin F' fq S u hm hul huk hud hur (by omega) hsb
end Go.Proofs.Ythnolhcknhhipaa

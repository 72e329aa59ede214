/-
  The disk: what it holds, as a list of bytes and of pending writes; how memory represents it.
-/
import Derived.Test.YthnolhcknhhipaaDa
namespace Go.Proofs.Ythnolhcknhhipaa
open Go Go.Proofs.Try

/-! a heap without some blocks; steps that change some blocks only -/
open Classical in
noncomputable def mns (F : PH) (fp : Nat → Prop) : PH := fun b => if fp b then none else F b
theorem mns_le (F : PH) (fp : Nat → Prop) : (mns F fp).le F := fun b o h => by
  unfold mns at h
  split at h
  · cases h
  · exact h
theorem mns_of {F : PH} {fp : Nat → Prop} {b : Nat} (h : ¬ fp b) : mns F fp b = F b := by simp [mns, h]
/-- What is new beside F. -/
abbrev old (F : PH) : Nat → Prop := fun b => F b ≠ none
theorem new_le {F G : PH} {fp : Nat → Prop} (h : ∀ b, fp b → F b ≠ none) : (mns G (old F)).le (mns G fp) := fun b o hb => by
  by_cases hp : old F b
  · simp [mns, hp] at hb
  · rw [mns_of hp] at hb
    rw [mns_of (fun hf => hp (h b hf))]
    exact hb
structure Step (fp : Nat → Prop) (F : PH) (fq : Nat → Prop) (G : PH) : Prop where
  keep : Keep fp F G
  new : ∀ b, fq b → fp b ∨ F b = none
theorem Step.refl (fp : Nat → Prop) (F : PH) : Step fp F fp F := ⟨Keep.refl _ _, fun _ h => .inl h⟩
theorem Step.trans {fp fq fr : Nat → Prop} {F G H : PH} (h : Step fp F fq G) (k : Step fq G fr H) : Step fp F fr H := by
  refine ⟨fun b o hb hn => ?_, fun b hb => ?_⟩
  · have h1 := h.keep b o hb hn
    refine k.keep b o h1 (fun hq => ?_)
    rcases h.new b hq with h2 | h2
    · exact hn h2
    · rw [hb] at h2; cases h2
  · rcases k.new b hb with h1 | h1
    · exact h.new b h1
    · by_cases hp : fp b
      · exact .inl hp
      · right
        cases hf : F b with
        | none => rfl
        | some o => rw [h.keep b o hf hp] at h1; cases h1
theorem Step.le {fp fq : Nat → Prop} {F G : PH} (h : Step fp F fq G) : (mns F fp).le (mns G fq) := fun b o hb => by
  have hb' := hb
  unfold mns at hb
  split at hb
  · cases hb
  · rename_i hn
    have h1 := h.keep b o hb hn
    have h2 : ¬ fq b := fun hq => by
      rcases h.new b hq with h3 | h3
      · exact hn h3
      · rw [hb] at h3; cases h3
    rw [mns_of h2]
    exact h1
theorem Step.of_le {fp : Nat → Prop} {F G : PH} (h : F.le G) : Step fp F fp G := ⟨Keep.of_le h, fun _ h => .inl h⟩

/-! rows that the call owns -/
def OwnS (F : PH) (e size : Nat) (s : Sl) (vs : List Value) : Prop :=
  (s = Sl.nil ∧ vs = []) ∨ ∃ b cur, s.base = some ⟨b, 0, none⟩ ∧ F b = some (.cells cur e (0, 0)) ∧ cur.size = s.cap * size ∧ s.len ≤ s.cap ∧ vs.length = s.len * size ∧ cur.toList.take (s.len * size) = vs
theorem OwnS.rd {F : PH} {e size : Nat} {s : Sl} {vs : List Value} (h : OwnS F e size s vs) : RdS F s size vs := by
  rcases h with ⟨rfl, rfl⟩ | ⟨b, cur, h1, h2, h3, h4, h5, h6⟩
  · exact RdS.nil F size
  · obtain ⟨base, len, cap⟩ := s
    cases h1
    exact RdS.new h2 h6 h5 h4
theorem OwnS.keep {F G : PH} {e size : Nat} {s : Sl} {vs : List Value} (h : OwnS F e size s vs) (hk : ∀ a, s.base = some a → G a.block = F a.block) : OwnS G e size s vs := by
  rcases h with h | ⟨b, cur, h1, h2, h3⟩
  · exact .inl h
  · exact .inr ⟨b, cur, h1, (hk _ h1).trans h2, h3⟩

/-! the disk -/
structure DS where
  dur : List Int
  ws : List (Int × List Int)
  down : Bool
  fuse : Int
  kept : List Int
abbrev wcells (w : Int × List Int) : List Value := .int .i64 w.1 :: u8s w.2
abbrev flat (ws : List (Int × List Int)) : List Value := ws.flatMap wcells
/-- The bytes l are laid over dur from o on. -/
def ovr (dur : List Int) (o : Nat) (l : List Int) : List Int := dur.take o ++ l ++ dur.drop (o + l.length)
theorem ovr_len {dur l : List Int} {o : Nat} (h : o + l.length ≤ dur.length) : (ovr dur o l).length = dur.length := by
  simp [ovr]; omega
def crStep (kept : List Int) (i : Nat) (w : Int × List Int) (dur : List Int) : List Int :=
  match kept[i]? with
  | some k => ovr dur (w.1.toNat * 64) (w.2.take (min (max k 0) 64).toNat)
  | none => dur
def crN (ws : List (Int × List Int)) (kept dur : List Int) : Nat → List Int
  | 0 => dur
  | k + 1 => match ws[k]? with
    | some w => crStep kept k w (crN ws kept dur k)
    | none => crN ws kept dur k
def flN (ws : List (Int × List Int)) (dur : List Int) : Nat → List Int
  | 0 => dur
  | k + 1 => match ws[k]? with
    | some w => ovr (flN ws dur k) (w.1.toNat * 64) w.2
    | none => flN ws dur k
namespace DS
def crash (s : DS) (kept : List Int) : DS := if s.down then s else ⟨crN s.ws kept s.dur s.ws.length, [], true, 0, []⟩
def ready (s : DS) : DS × Int :=
  if s.down then (s, 340) else if s.fuse = 1 then (s.crash s.kept, 340) else ({ s with fuse := max (s.fuse - 1) 0 }, 0)
def write (s : DS) (n : Nat) (at_ : Int) (l : List Int) : DS × Int :=
  if at_ < 0 ∨ (n : Int) ≤ at_ ∨ l.length ≠ 64 then (s, 1) else
  if s.ready.2 ≠ 0 then s.ready else ({ s.ready.1 with ws := s.ready.1.ws ++ [(at_, l)] }, 0)
def flush (s : DS) : DS × Int :=
  if s.ready.2 ≠ 0 then s.ready else ({ s.ready.1 with dur := flN s.ready.1.ws s.ready.1.dur s.ready.1.ws.length, ws := [] }, 0)
def power (s : DS) : DS := { s with down := false }
def setFuse (s : DS) (k : Int) (kept : List Int) : DS := { s with fuse := max k 0, kept := kept }
def sect (s : DS) (at_ : Nat) : List Int := (s.dur.drop (at_ * 64)).take 64
def rdN (ws : List (Int × List Int)) (at_ : Int) (l : List Int) : Nat → List Int
  | 0 => l
  | k + 1 => match ws[k]? with
    | some w => if w.1 = at_ then w.2 else rdN ws at_ l k
    | none => rdN ws at_ l k
def read (s : DS) (n : Nat) (at_ : Int) : List Int × Int :=
  if at_ < 0 ∨ (n : Int) ≤ at_ then ([], 1) else if s.down then ([], 340) else (rdN s.ws at_ (s.sect at_.toNat) s.ws.length, 0)
end DS
structure DS.ok (n : Nat) (s : DS) : Prop where
  n1 : 1 ≤ n
  n2 : n ≤ 65536
  dur : s.dur.length = n * 64
  fuse0 : 0 ≤ s.fuse
  fuse1 : s.fuse ≤ 9223372036854775807
  ws : ∀ w ∈ s.ws, 0 ≤ w.1 ∧ w.1 < n ∧ w.2.length = 64
  wl : s.ws.length ≤ 1000

/-- What the memory of a disk holds. -/
structure DMem (F : PH) (d : Nat) (fp : Nat → Prop) (n : Nat) (s : DS) (bd dc : Nat) (tl : List Value) (wsl ksl : Sl) : Prop where
  hd : F d = some (.cells #[Sl.v ⟨some ⟨bd, 0, none⟩, n * 64, dc⟩, Sl.v wsl, .bool s.down, .int .i64 s.fuse, Sl.v ksl] 63 (0, 0))
  hb : F bd = some (.cells (u8s s.dur ++ tl).toArray 5 (0, 0))
  hc : n * 64 ≤ dc ∧ dc * 1 = s.dur.length + tl.length
  hw : OwnS F 66 65 wsl (flat s.ws)
  hl : wsl.len = s.ws.length
  hk : RdS (mns F fp) ksl 1 (i64s s.kept)
  hf : ∀ b, fp b ↔ (b = d ∨ b = bd ∨ ∃ a, wsl.base = some a ∧ b = a.block)
  ok : s.ok n
def DRep (F : PH) (d : Nat) (fp : Nat → Prop) (n : Nat) (s : DS) : Prop := ∃ bd dc tl wsl ksl, DMem F d fp n s bd dc tl wsl ksl

section
variable {F G : PH} {d n bd dc : Nat} {tl : List Value} {fp : Nat → Prop} {s : DS} {wsl ksl : Sl}
theorem DMem.ne_db (h : DMem F d fp n s bd dc tl wsl ksl) : d ≠ bd := by
  rintro rfl
  have := h.hd.symm.trans h.hb
  injection this with this
  injection this with _ h2
  cases h2
theorem DMem.wblock (h : DMem F d fp n s bd dc tl wsl ksl) : ∀ a, wsl.base = some a → a.block ≠ d ∧ a.block ≠ bd := by
  intro a ha
  rcases h.hw with ⟨rfl, _⟩ | ⟨b, cur, h1, h2, _⟩
  · cases ha
  · rw [ha] at h1
    cases h1
    constructor
    · rintro rfl
      have := h2.symm.trans h.hd
      injection this with this
      injection this with _ h3
      cases h3
    · rintro rfl
      have := h2.symm.trans h.hb
      injection this with this
      injection this with _ h3
      cases h3
theorem DMem.dom (h : DMem F d fp n s bd dc tl wsl ksl) : ∀ b, fp b → F b ≠ none := by
  intro b hb
  rcases (h.hf b).1 hb with rfl | rfl | ⟨a, ha, rfl⟩
  · rw [h.hd]; simp
  · rw [h.hb]; simp
  · rcases h.hw with ⟨rfl, _⟩ | ⟨b, cur, h1, h2, _⟩
    · cases ha
    · rw [ha] at h1; cases h1; rw [h2]; simp
theorem DRep.dom (h : DRep F d fp n s) : ∀ b, fp b → F b ≠ none := by
  obtain ⟨bd, dc, tl, wsl, ksl, h⟩ := h
  exact h.dom
/-- What is done elsewhere leaves the disk as it is. -/
theorem DRep.keep (h : DRep F d fp n s) (hk : ∀ b, fp b → G b = F b) (hl : (mns F fp).le (mns G fp)) : DRep G d fp n s := by
  obtain ⟨bd, dc, tl, wsl, ksl, h⟩ := h
  refine ⟨bd, dc, tl, wsl, ksl, (hk d ((h.hf d).2 (.inl rfl))).trans h.hd, (hk bd ((h.hf bd).2 (.inr (.inl rfl)))).trans h.hb, h.hc, h.hw.keep (fun a ha => hk _ ((h.hf _).2 (.inr (.inr ⟨a, ha, rfl⟩)))), h.hl, h.hk.le hl, h.hf, h.ok⟩
theorem DRep.le (h : DRep F d fp n s) (hl : F.le G) : DRep G d fp n s := by
  refine h.keep (fun b hb => ?_) (Step.of_le hl).le
  have := h.dom b hb
  cases hf : F b with
  | none => exact absurd hf this
  | some o => exact hl b o hf
theorem DRep.ok (h : DRep F d fp n s) : s.ok n := by obtain ⟨_, _, _, _, _, h⟩ := h; exact h.ok
end

/-! lists -/
theorem wr_list (vs : List Value) : ∀ (c : List Value) (o : Nat), o + vs.length ≤ c.length → wr c.toArray o vs = (c.take o ++ vs ++ c.drop (o + vs.length)).toArray := by
  intro c o h
  apply Array.ext
  · rw [wr_size]; simp; omega
  · intro i h1 h2
    have := wr_get vs c.toArray o i (by simpa using h)
    rw [Array.getElem?_eq_getElem h1] at this
    rw [wr_size] at h1
    simp only [List.size_toArray] at h1
    have h3 : (c.take o ++ vs ++ c.drop (o + vs.length)).toArray[i] = (c.take o ++ vs ++ c.drop (o + vs.length))[i]'(by simpa using h2) := by simp
    rw [h3]
    apply Option.some.inj
    rw [← List.getElem?_eq_getElem, this]
    by_cases hi : i < o
    · rw [if_neg (by omega), List.append_assoc, List.getElem?_append_left (by simp; omega)]
      simp [hi]
    · by_cases hj : i < o + vs.length
      · rw [if_pos ⟨by omega, hj⟩, List.getElem?_append_left (by simp; omega), List.getElem?_append_right (by simp; omega)]
        simp
        congr 1
        omega
      · rw [if_neg (by omega), List.getElem?_append_right (by simp; omega)]
        simp
        congr 1
        omega
theorem wr_u8t {dur l : List Int} {tl : List Value} {o : Nat} (h : o + l.length ≤ dur.length) : wr (u8s dur ++ tl).toArray o (u8s l) = (u8s (ovr dur o l) ++ tl).toArray := by
  rw [wr_list _ _ _ (by simp; omega)]
  congr 1
  rw [List.take_append_of_le_length (by simp; omega), List.drop_append_of_le_length (by simp; omega)]
  simp [ovr, u8s]
theorem wr_u8 {dur l : List Int} {o : Nat} (h : o + l.length ≤ dur.length) : wr (u8s dur).toArray o (u8s l) = (u8s (ovr dur o l)).toArray := by
  have := wr_u8t (tl := []) h
  simpa using this
theorem flat_len {ws : List (Int × List Int)} (h : ∀ w ∈ ws, w.2.length = 64) : (flat ws).length = ws.length * 65 := by
  induction ws with
  | nil => rfl
  | cons w ws ih =>
    have h1 := h w (List.mem_cons_self ..)
    have h2 := ih (fun x hx => h x (List.mem_cons_of_mem _ hx))
    simp only [flat] at h2
    simp [flat, h1, h2]
    omega
theorem flat_at {ws : List (Int × List Int)} (h : ∀ w ∈ ws, w.2.length = 64) {k : Nat} (hk : k < ws.length) : ((flat ws).drop (k * 65)).take 65 = wcells ws[k] := by
  induction ws generalizing k with
  | nil => simp at hk
  | cons w ws ih =>
    have h1 := h w (List.mem_cons_self ..)
    have hw : (wcells w).length = 65 := by simp [h1]
    cases k with
    | zero =>
      simp only [Nat.zero_mul, List.drop_zero, List.getElem_cons_zero]
      rw [show flat (w :: ws) = wcells w ++ flat ws by simp [flat], List.take_append_of_le_length (by omega), List.take_of_length_le (by omega)]
    | succ k =>
      have hk' : k < ws.length := by simp at hk; omega
      have := ih (fun x hx => h x (List.mem_cons_of_mem _ hx)) hk'
      simp only [List.getElem_cons_succ]
      rw [show flat (w :: ws) = wcells w ++ flat ws by simp [flat], List.drop_append, hw]
      rw [show (k + 1) * 65 - 65 = k * 65 by omega]
      rw [List.drop_of_length_le (by rw [hw]; omega), List.nil_append]
      exact this
theorem st_wcells {w : Int × List Int} : ∀ v ∈ wcells w, storable v := by
  intro v hv
  rcases List.mem_cons.1 hv with rfl | hv
  · exact st_int
  · exact st_u8s v hv
theorem st_flat {ws : List (Int × List Int)} : ∀ v ∈ flat ws, storable v := by
  intro v hv
  obtain ⟨w, _, h⟩ := List.mem_flatMap.1 hv
  exact st_wcells v h
end Go.Proofs.Ythnolhcknhhipaa

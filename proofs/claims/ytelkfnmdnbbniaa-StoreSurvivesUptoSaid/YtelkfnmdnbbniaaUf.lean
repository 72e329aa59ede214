/-
  The disk: rows of sectors; what is read after writes, flushes and crashes.
-/
import Derived.Test.YtelkfnmdnbbniaaPhn
import Derived.Test.YtelkfnmdnbbniaaGa
import Derived.Test.YtelkfnmdnbbniaaGb
namespace Go.Proofs.Ytelkfnmdnbbniaa
open Go Go.Proofs.Try
set_option maxRecDepth 10000
abbrev u8s (l : List Int) : List Value := l.map (Value.int .u8)
abbrev i64s (l : List Int) : List Value := l.map (Value.int .i64)
theorem st_u8s {l : List Int} : ∀ v ∈ u8s l, storable v := by
  intro v hv
  obtain ⟨x, _, rfl⟩ := List.mem_map.1 hv
  exact st_int
theorem st_i64s {l : List Int} : ∀ v ∈ i64s l, storable v := by
  intro v hv
  obtain ⟨x, _, rfl⟩ := List.mem_map.1 hv
  exact st_int
theorem RdS.byte {F : PH} {s : Sl} {l : List Int} {k : IntKind} (h : RdS F s 1 (l.map (Value.int k))) {i : Nat} (hi : i < l.length) : ∃ a, s.base = some a ∧ F.cell (a.add (Int.toNat (i : Int) * 1)) = some (.int k l[i]) := by
  have hl := h.len
  simp at hl
  obtain ⟨b, o, h1, h2⟩ := h.cells (by omega)
  refine ⟨_, h1, ?_⟩
  have := h2 i (by simpa using hi)
  simpa using this
open Classical in
noncomputable def mns (F : PH) (fp : Nat → Prop) : PH := fun b => if fp b then none else F b
theorem mns_le (F : PH) (fp : Nat → Prop) : (mns F fp).le F := fun b o h => by
  unfold mns at h
  split at h
  · cases h
  · exact h
theorem mns_of {F : PH} {fp : Nat → Prop} {b : Nat} (h : ¬ fp b) : mns F fp b = F b := by simp [mns, h]
abbrev old (F : PH) : Nat → Prop := fun b => F b ≠ none
structure Step (fp : Nat → Prop) (F : PH) (fq : Nat → Prop) (G : PH) : Prop where
  keep : Keep fp F G
  new : ∀ b, fq b → fp b ∨ F b = none
theorem Step.refl (fp : Nat → Prop) (F : PH) : Step fp F fp F := ⟨Keep.refl _ _, fun _ h => .inl h⟩
theorem Step.trans {fp fq fr : Nat → Prop} {F G H : PH} (h : Step fp F fq G) (k : Step fq G fr H) : Step fp F fr H := by
  refine ⟨fun b o hb hn => ?_, fun b hb => ?_⟩
  · have h1 := h.keep b o hb hn
    refine k.keep b o h1 (fun hq => ?_)
    rcases h.new b hq with h2 | h2
    · exact hn h2
    · rw [hb] at h2; cases h2
  · rcases k.new b hb with h1 | h1
    · exact h.new b h1
    · by_cases hp : fp b
      · exact .inl hp
      · right
        cases hf : F b with
        | none => rfl
        | some o => rw [h.keep b o hf hp] at h1; cases h1
theorem Step.le {fp fq : Nat → Prop} {F G : PH} (h : Step fp F fq G) : (mns F fp).le (mns G fq) := fun b o hb => by
  have hb' := hb
  unfold mns at hb
  split at hb
  · cases hb
  · rename_i hn
    have h1 := h.keep b o hb hn
    have h2 : ¬ fq b := fun hq => by
      rcases h.new b hq with h3 | h3
      · exact hn h3
      · rw [hb] at h3; cases h3
    rw [mns_of h2]
    exact h1
theorem Step.of_le {fp : Nat → Prop} {F G : PH} (h : F.le G) : Step fp F fp G := ⟨Keep.of_le h, fun _ h => .inl h⟩
structure DS where
  dur : List Int
  ws : List (Int × List Int)
  down : Bool
  fuse : Int
  kept : List Int
abbrev wcells (w : Int × List Int) : List Value := .int .i64 w.1 :: u8s w.2
abbrev flat (ws : List (Int × List Int)) : List Value := ws.flatMap wcells
def ovr (dur : List Int) (o : Nat) (l : List Int) : List Int := dur.take o ++ l ++ dur.drop (o + l.length)
theorem ovr_len {dur l : List Int} {o : Nat} (h : o + l.length ≤ dur.length) : (ovr dur o l).length = dur.length := by
  simp [ovr]; omega
def crStep (kept : List Int) (i : Nat) (w : Int × List Int) (dur : List Int) : List Int :=
  match kept[i]? with
  | some k => ovr dur (w.1.toNat * 64) (w.2.take (min (max k 0) 64).toNat)
  | none => dur
def crN (ws : List (Int × List Int)) (kept dur : List Int) : Nat → List Int
  | 0 => dur
  | k + 1 => match ws[k]? with
    | some w => crStep kept k w (crN ws kept dur k)
    | none => crN ws kept dur k
def flN (ws : List (Int × List Int)) (dur : List Int) : Nat → List Int
  | 0 => dur
  | k + 1 => match ws[k]? with
    | some w => ovr (flN ws dur k) (w.1.toNat * 64) w.2
    | none => flN ws dur k
namespace DS
def crash (s : DS) (kept : List Int) : DS := if s.down then s else ⟨crN s.ws kept s.dur s.ws.length, [], true, 0, []⟩
def ready (s : DS) : DS × Int :=
  if s.down then (s, 340) else if s.fuse = 1 then (s.crash s.kept, 340) else ({ s with fuse := max (s.fuse - 1) 0 }, 0)
def write (s : DS) (n : Nat) (at_ : Int) (l : List Int) : DS × Int :=
  if at_ < 0 ∨ (n : Int) ≤ at_ ∨ l.length ≠ 64 then (s, 1) else
  if s.ready.2 ≠ 0 then s.ready else ({ s.ready.1 with ws := s.ready.1.ws ++ [(at_, l)] }, 0)
def flush (s : DS) : DS × Int :=
  if s.ready.2 ≠ 0 then s.ready else ({ s.ready.1 with dur := flN s.ready.1.ws s.ready.1.dur s.ready.1.ws.length, ws := [] }, 0)
def power (s : DS) : DS := { s with down := false }
def setFuse (s : DS) (k : Int) (kept : List Int) : DS := { s with fuse := max k 0, kept := kept }
def sect (s : DS) (at_ : Nat) : List Int := (s.dur.drop (at_ * 64)).take 64
def rdN (ws : List (Int × List Int)) (at_ : Int) (l : List Int) : Nat → List Int
  | 0 => l
  | k + 1 => match ws[k]? with
    | some w => if w.1 = at_ then w.2 else rdN ws at_ l k
    | none => rdN ws at_ l k
def read (s : DS) (n : Nat) (at_ : Int) : List Int × Int :=
  if at_ < 0 ∨ (n : Int) ≤ at_ then ([], 1) else if s.down then ([], 340) else (rdN s.ws at_ (s.sect at_.toNat) s.ws.length, 0)
end DS
structure DS.ok (n : Nat) (s : DS) : Prop where
  n1 : 1 ≤ n
  n2 : n ≤ 65536
  dur : s.dur.length = n * 64
  fuse0 : 0 ≤ s.fuse
  fuse1 : s.fuse ≤ 9223372036854775807
  ws : ∀ w ∈ s.ws, 0 ≤ w.1 ∧ w.1 < n ∧ w.2.length = 64
  wl : s.ws.length ≤ 1000
structure DMem (F K : PH) (d : Nat) (fp : Nat → Prop) (n : Nat) (s : DS) (bd dc : Nat) (tl : List Value) (wsl ksl : Sl) : Prop where
  hd : F d = some (.cells #[Sl.v ⟨some ⟨bd, 0, none⟩, n * 64, dc⟩, Sl.v wsl, .bool s.down, .int .i64 s.fuse, Sl.v ksl] 99 (0, 0))
  hb : F bd = some (.cells (u8s s.dur ++ tl).toArray 5 (0, 0))
  hc : n * 64 ≤ dc ∧ dc * 1 = s.dur.length + tl.length
  hw : OwnS F 102 65 wsl (flat s.ws)
  hl : wsl.len = s.ws.length
  hk : RdS K ksl 1 (i64s s.kept)
  hK : K.le (mns F fp)
  hf : ∀ b, fp b ↔ (b = d ∨ b = bd ∨ ∃ a, wsl.base = some a ∧ b = a.block)
  ok : s.ok n
def DRep (F K : PH) (d : Nat) (fp : Nat → Prop) (n : Nat) (s : DS) : Prop := ∃ bd dc tl wsl ksl, DMem F K d fp n s bd dc tl wsl ksl
section
variable {F G K : PH} {d n bd dc : Nat} {tl : List Value} {fp : Nat → Prop} {s : DS} {wsl ksl : Sl}
theorem DMem.ne_db (h : DMem F K d fp n s bd dc tl wsl ksl) : d ≠ bd := by
  rintro rfl
  have := h.hd.symm.trans h.hb
  injection this with this
  injection this with _ h2
  cases h2
theorem DMem.wblock (h : DMem F K d fp n s bd dc tl wsl ksl) : ∀ a, wsl.base = some a → a.block ≠ d ∧ a.block ≠ bd := by
  intro a ha
  rcases h.hw with ⟨rfl, _⟩ | ⟨b, cur, h1, h2, _⟩
  · cases ha
  · rw [ha] at h1
    cases h1
    constructor
    · rintro rfl
      have := h2.symm.trans h.hd
      injection this with this
      injection this with _ h3
      cases h3
    · rintro rfl
      have := h2.symm.trans h.hb
      injection this with this
      injection this with _ h3
      cases h3
theorem DMem.dom (h : DMem F K d fp n s bd dc tl wsl ksl) : ∀ b, fp b → F b ≠ none := by
  intro b hb
  rcases (h.hf b).1 hb with rfl | rfl | ⟨a, ha, rfl⟩
  · rw [h.hd]; simp
  · rw [h.hb]; simp
  · rcases h.hw with ⟨rfl, _⟩ | ⟨b, cur, h1, h2, _⟩
    · cases ha
    · rw [ha] at h1; cases h1; rw [h2]; simp
theorem DRep.dom (h : DRep F K d fp n s) : ∀ b, fp b → F b ≠ none := by
  obtain ⟨bd, dc, tl, wsl, ksl, h⟩ := h
  exact h.dom
theorem DRep.keep (h : DRep F K d fp n s) (hk : ∀ b, fp b → G b = F b) (hl : K.le (mns G fp)) : DRep G K d fp n s := by
  obtain ⟨bd, dc, tl, wsl, ksl, h⟩ := h
  refine ⟨bd, dc, tl, wsl, ksl, (hk d ((h.hf d).2 (.inl rfl))).trans h.hd, (hk bd ((h.hf bd).2 (.inr (.inl rfl)))).trans h.hb, h.hc, h.hw.keep (fun a ha => hk _ ((h.hf _).2 (.inr (.inr ⟨a, ha, rfl⟩)))), h.hl, h.hk, hl, h.hf, h.ok⟩
theorem DRep.le (h : DRep F K d fp n s) (hl : F.le G) : DRep G K d fp n s := by
  have hK : K.le (mns F fp) := by obtain ⟨_, _, _, _, _, h⟩ := h; exact h.hK
  refine h.keep (fun b hb => ?_) (le_trans' hK (Step.of_le hl).le)
  have := h.dom b hb
  cases hf : F b with
  | none => exact absurd hf this
  | some o => exact hl b o hf
theorem DRep.ok (h : DRep F K d fp n s) : s.ok n := by obtain ⟨_, _, _, _, _, h⟩ := h; exact h.ok
end
theorem wr_u8t {dur l : List Int} {tl : List Value} {o : Nat} (h : o + l.length ≤ dur.length) : wr (u8s dur ++ tl).toArray o (u8s l) = (u8s (ovr dur o l) ++ tl).toArray := by
  rw [wr_list _ _ _ (by simp; omega)]
  congr 1
  rw [List.take_append_of_le_length (by simp; omega), List.drop_append_of_le_length (by simp; omega)]
  simp [ovr, u8s]
theorem wr_u8 {dur l : List Int} {o : Nat} (h : o + l.length ≤ dur.length) : wr (u8s dur).toArray o (u8s l) = (u8s (ovr dur o l)).toArray := by
  have := wr_u8t (tl := []) h
  simpa using this
theorem flat_at {ws : List (Int × List Int)} (h : ∀ w ∈ ws, w.2.length = 64) {k : Nat} (hk : k < ws.length) : ((flat ws).drop (k * 65)).take 65 = wcells ws[k] := by
  induction ws generalizing k with
  | nil => simp at hk
  | cons w ws ih =>
    have h1 := h w (List.mem_cons_self ..)
    have hw : (wcells w).length = 65 := by simp [h1]
    cases k with
    | zero =>
      simp only [Nat.zero_mul, List.drop_zero, List.getElem_cons_zero]
      rw [show flat (w :: ws) = wcells w ++ flat ws by simp [flat], List.take_append_of_le_length (by omega), List.take_of_length_le (by omega)]
    | succ k =>
      have hk' : k < ws.length := by simp at hk; omega
      have := ih (fun x hx => h x (List.mem_cons_of_mem _ hx)) hk'
      simp only [List.getElem_cons_succ]
      rw [show flat (w :: ws) = wcells w ++ flat ws by simp [flat], List.drop_append, hw]
      rw [show (k + 1) * 65 - 65 = k * 65 by omega]
      rw [List.drop_of_length_le (by rw [hw]; omega), List.nil_append]
      exact this
theorem st_wcells {w : Int × List Int} : ∀ v ∈ wcells w, storable v := by
  intro v hv
  rcases List.mem_cons.1 hv with rfl | hv
  · exact st_int
  · exact st_u8s v hv
section
variable {F K : PH} {d n : Nat} {fp : Nat → Prop} {s : DS}
theorem hdcell {F : PH} {d i : Nat} {c : Array Value} {v : Value} (h : F d = some (.cells c 99 (0, 0))) (hv : c[i]? = some v) : F.cell (Addr.add ⟨d, 0, none⟩ i) = some v := by
  rw [add_mk, Nat.zero_add, cell_eq h]; exact hv
theorem sectors_spec (h : DRep F K d fp n s) : Spec prog 28 #[.pointer (some ⟨d, 0, none⟩)] F fun v F' => v = .int .i64 (n : Int) ∧ F' = F := by
  obtain ⟨bd, dc, tl, wsl, ksl, h⟩ := h
  have h2 := h.ok.n2
  refine c28 ?_
  refine ⟨_, rfl, _, (cell_eq h.hd).trans rfl, ?_⟩
  refine ⟨?_, rfl⟩
  congr 1
  simp only
  rw [show (((n * 64 : Nat) : Int).tdiv 64) = (n : Int) by rw [Int.tdiv_eq_ediv_of_nonneg (by omega)]; omega]
  exact w64_eq (by omega) (by omega)
theorem sector_spec {bd dc : Nat} {wsl ksl : Sl} (h : F.cell ⟨d, 0, none⟩ = some (Sl.v ⟨some ⟨bd, 0, none⟩, n * 64, dc⟩)) (hn : n ≤ 65536) (hdc : n * 64 ≤ dc) {i : Nat} (hi : i < n) :
    Spec prog 64 #[.pointer (some ⟨d, 0, none⟩), .int .i64 (i : Int)] F fun v F' => v = Sl.v ⟨some ⟨bd, i * 64, none⟩, 64, 64⟩ ∧ F' = F := by
  refine c64 ?_
  have e1 : IntKind.i64.wrap ((i : Int) * 64) = ((i * 64 : Nat) : Int) := by rw [w64_eq (by omega) (by omega)]; omega
  have e2 : IntKind.i64.wrap ((i : Int) + 1) = ((i + 1 : Nat) : Int) := by rw [w64_eq (by omega) (by omega)]; omega
  have e3 : IntKind.i64.wrap (((i + 1 : Nat) : Int) * 64) = (((i + 1) * 64 : Nat) : Int) := by rw [w64_eq (by omega) (by omega)]; omega
  refine ⟨_, rfl, _, h, ?_⟩
  simp only [e1, e2, e3, Int.toNat_natCast]
  refine ⟨by omega, by omega, by omega, by omega, by omega, by omega, ?_, trivial⟩
  simp only [Sl.cut]
  rw [if_neg (by omega), show (i + 1) * 64 - i * 64 = 64 by omega]
  simp
theorem power_spec (h : DRep F K d fp n s) : Spec prog 34 #[.pointer (some ⟨d, 0, none⟩)] F fun v F' => v = .tuple #[] ∧ DRep F' K d fp n s.power ∧ Step fp F fp F' := by
  obtain ⟨bd, dc, tl, wsl, ksl, h⟩ := h
  have hd := h.hd
  have hne := h.ne_db
  have hwb := h.wblock
  have hfd : fp d := (h.hf d).2 (.inl rfl)
  refine c34 ?_
  refine ⟨_, rfl, ?_⟩
  refine st1' (b := d) (o := 2) (by simp) hd (by simp) ?_
  have hst : Step fp F fp (F.set d (.cells (#[Sl.v ⟨some ⟨bd, 0, none⟩, n * 64, dc⟩, Sl.v wsl, .bool s.down, .int .i64 s.fuse, Sl.v ksl].setIfInBounds 2 (.bool false)) 99)) := ⟨Keep.set _ (.inl hfd), fun _ h => .inl h⟩
  refine ⟨rfl, ⟨bd, dc, tl, wsl, ksl, ?_⟩, hst⟩
  refine ⟨by rw [set_eq]; rfl, by rw [set_ne _ _ hne.symm]; exact h.hb, h.hc, h.hw.keep (fun a ha => set_ne _ _ (hwb a ha).1), h.hl, h.hk, le_trans' h.hK hst.le, h.hf, ?_⟩
  obtain ⟨o1, o2, o3, o4, o5, o6, o7⟩ := h.ok
  exact ⟨o1, o2, o3, o4, o5, o6, o7⟩
theorem clone_gen {P : Program} {F : PH} {x : Sl} {t e size bytes ty : Nat} {z : Value} {vs : List Value} {b : Nat} {Q : Value → PH → Prop} (ht : P.underlying t = some (.slice e)) (hsz : tsz P e = some (size, bytes)) (hz : tzero P e = some z) (hzs : z.cells.size = size)
    (hb : F b = none) (hr : RdS F x size vs) (hst : ∀ v ∈ vs, storable v) (hfit : x.len * bytes ≤ 140737488355328) (hlen : x.len ≤ 9223372036854775807)
    (h : ∀ s' F', F.le F' → OwnS F' e size s' vs → s'.len = x.len → (∀ a, s'.base = some a → F a.block = none) → Q s'.v F') :
    runs P (Builtin.append_ #[t, t] ty #[Sl.v ⟨some ⟨b, 0, none⟩, 0, 0⟩, x.v]) (F.set b (.cells #[] e)) Q := by
  have hle := le_set_fresh (F := F) (.cells #[] e) hb
  refine runs_append (olds := []) (news := vs) ht hsz hz hzs ⟨by simp, Nat.le_refl _, fun h => by simp at h⟩ (hr.le hle) hst (by simpa using hfit) (by simpa using hlen) ?_ ?_ ?_
  · intro h1 h2
    simp only at h1 h2
    have hx : x.len = 0 := by omega
    have hv : vs = [] := List.eq_nil_of_length_eq_zero (by rw [hr.len, hx, Nat.zero_mul])
    subst hv
    refine h ⟨_, _, _⟩ _ hle (.inr ⟨b, #[], rfl, set_eq _ _ _, by simp, by simp [hx], by simp [hx], by simp⟩) (by simp) ?_
    rintro a ha
    cases ha
    exact hb
  · intro h1 h2
    simp only at h2
    have hx : x.len = 0 := by omega
    rw [hx] at h1
    simp at h1
  · intro h1 cap b' h2 h3
    simp only [Nat.zero_add] at h1 h2 h3 ⊢
    have hb' : F b' = none := le_none hle h3
    refine h ⟨_, _, _⟩ _ (le_trans' hle (le_set_fresh _ h3)) (.inr ⟨b', _, rfl, set_eq _ _ _, ?_, h2, hr.len, ?_⟩) rfl ?_
    · simp [Builtin.zeroCells, hzs, hr.len]
      rw [← Nat.add_mul]
      congr 1
      omega
    · simp only [List.append_toArray, List.nil_append, Array.toList_append]
      rw [List.take_append_of_le_length (by rw [← hr.len]; simp), List.take_of_length_le (by rw [← hr.len]; simp)]
    · rintro a ha
      cases ha
      exact hb'
theorem RdS.none_len {F : PH} {s : Sl} {size : Nat} {vs : List Value} (h : RdS F s size vs) (hb : s.base = none) : s.len = 0 := by
  rcases Nat.eq_zero_or_pos s.len with h0 | h0
  · exact h0
  · obtain ⟨b, o, h1, _⟩ := h.cells h0
    rw [hb] at h1
    cases h1
theorem RdS.none_nil {F : PH} {s : Sl} {size : Nat} {vs : List Value} (h : RdS F s size vs) (hb : s.base = none) : vs = [] := by
  have h1 := h.len
  rw [h.none_len hb, Nat.zero_mul] at h1
  exact List.eq_nil_of_length_eq_zero h1
def IsClone (F F' : PH) (e size : Nat) (s : Sl) (vs : List Value) : Prop := F.le F' ∧ OwnS F' e size s vs ∧ ∀ a, s.base = some a → F a.block = none
theorem clone5_spec {F : PH} {x : Sl} {vs : List Value} (hr : RdS F x 1 vs) (hst : ∀ v ∈ vs, storable v) (hfit : x.len ≤ 140737488355328) :
    Spec prog 43 #[x.v] F fun v F' => ∃ s, v = Sl.v s ∧ s.len = x.len ∧ IsClone F F' 5 1 s vs := by
  refine c43 ?_
  unfold b43
  refine ⟨fun hb => ?_, fun hb => ?_⟩
  · have hb' : x.base = none := by simpa using hb
    exact ⟨Sl.nil, rfl, (hr.none_len hb').symm, le_refl' _, .inl ⟨rfl, hr.none_nil hb'⟩, fun a ha => by cases ha⟩
  · intro b hbf
    refine atI ?_
    refine clone_gen underlying39 sz5 zr5 rfl hbf hr hst (by omega) (by omega) ?_
    intro s' F' h1 h2 h3 h4
    exact ⟨s', rfl, s', rfl, h3, h1, h2, h4⟩
theorem clone3_spec {F : PH} {x : Sl} {vs : List Value} (hr : RdS F x 1 vs) (hst : ∀ v ∈ vs, storable v) (hfit : x.len * 8 ≤ 140737488355328) :
    Spec prog 61 #[x.v] F fun v F' => ∃ s, v = Sl.v s ∧ s.len = x.len ∧ IsClone F F' 3 1 s vs := by
  refine c61 ?_
  unfold b61
  refine ⟨fun hb => ?_, fun hb => ?_⟩
  · have hb' : x.base = none := by simpa using hb
    exact ⟨Sl.nil, rfl, (hr.none_len hb').symm, le_refl' _, .inl ⟨rfl, hr.none_nil hb'⟩, fun a ha => by cases ha⟩
  · intro b hbf
    refine atI ?_
    refine clone_gen underlying68 sz3 zr3 rfl hbf hr hst (by omega) (by omega) ?_
    intro s' F' h1 h2 h3 h4
    exact ⟨s', rfl, s', rfl, h3, h1, h2, h4⟩
theorem IsClone.rd {F F' : PH} {e size : Nat} {s : Sl} {vs : List Value} (h : IsClone F F' e size s vs) {fp : Nat → Prop} (hf : ∀ b, fp b → F b ≠ none) : RdS (mns F' fp) s size vs := by
  obtain ⟨h1, h2, h3⟩ := h
  have h4 : OwnS (mns F' fp) e size s vs := h2.keep fun a ha => mns_of fun hb => hf _ hb (h3 a ha)
  exact h4.rd
theorem fuse_new (h : DRep F K d fp n s) {k : Int} {x : Sl} {kept : List Int} (hk : k ≤ 9223372036854775807) (hr : RdS F x 1 (i64s kept)) (hfit : x.len * 8 ≤ 140737488355328) :
    Spec prog 32 #[.pointer (some ⟨d, 0, none⟩), .int .i64 k, x.v] F fun v F' => v = .tuple #[] ∧ DRep (mns F' (fun b => old F b ∧ ¬ fp b)) (mns (mns F' (fun b => old F b ∧ ¬ fp b)) fp) d fp n (s.setFuse k kept) ∧ Step fp F fp F' := by
  have hdom := h.dom
  obtain ⟨bd, dc, tl, wsl, ksl, h⟩ := h
  have hne := h.ne_db
  have hwb := h.wblock
  have hfd : fp d := (h.hf d).2 (.inl rfl)
  refine c32 ?_
  unfold b32
  refine (clone3_spec hr st_i64s hfit).mono ?_
  rintro v F1 ⟨sl, rfl, hlen, hcl⟩
  have hs1 : Step fp F fp F1 := Step.of_le hcl.1
  have hrd := hcl.rd (fp := fp) hdom
  have hd := hcl.1 _ _ h.hd
  have hb := hcl.1 _ _ h.hb
  refine ⟨sl, rfl, _, rfl, ?_⟩
  refine st1' (b := d) (o := 3) (by simp) hd (by simp) ?_
  refine st1' (b := d) (o := 4) (by simp) (set_eq _ _ _) (by simp) ?_
  rw [set_twice]
  have hst : Step fp F1 fp (F1.set d (.cells ((#[Sl.v ⟨some ⟨bd, 0, none⟩, n * 64, dc⟩, Sl.v wsl, .bool s.down, .int .i64 s.fuse, Sl.v ksl].setIfInBounds 3 (.int .i64 (max k 0))).setIfInBounds 4 (Sl.v sl)) 99)) := ⟨Keep.set _ (.inl hfd), fun _ h => .inl h⟩
  refine ⟨rfl, ⟨bd, dc, tl, wsl, sl, ?_⟩, hs1.trans hst⟩
  obtain ⟨o1, o2, o3, o4, o5, o6, o7⟩ := h.ok
  have hm : ∀ b, fp b → ¬ (old F b ∧ ¬ fp b) := fun b hb hp => hp.2 hb
  refine ⟨by rw [mns_of (hm _ hfd), set_eq]; rfl, by rw [mns_of (hm _ ((h.hf _).2 (.inr (.inl rfl)))), set_ne _ _ hne.symm]; exact hb, h.hc, h.hw.keep (fun a ha => ?_), h.hl, ?_, le_refl' _, h.hf, ⟨o1, o2, o3, by simp only [DS.setFuse]; omega, by simp only [DS.setFuse]; omega, o6, o7⟩⟩
  · rw [mns_of (hm _ ((h.hf _).2 (.inr (.inr ⟨a, ha, rfl⟩)))), set_ne _ _ (hwb a ha).1]
    have := hdom a.block ((h.hf _).2 (.inr (.inr ⟨a, ha, rfl⟩)))
    cases hfa : F a.block with
    | none => exact absurd hfa this
    | some o => exact hcl.1 _ _ hfa
  · have h4 := hcl.2.1.keep (G := mns (mns (F1.set d (.cells ((#[Sl.v ⟨some ⟨bd, 0, none⟩, n * 64, dc⟩, Sl.v wsl, .bool s.down, .int .i64 s.fuse, Sl.v ksl].setIfInBounds 3 (.int .i64 (max k 0))).setIfInBounds 4 (Sl.v sl)) 99)) (fun b => old F b ∧ ¬ fp b)) fp) (fun a ha => by
      have h5 := hcl.2.2 a ha
      rw [mns_of (fun hb => hdom _ hb h5), mns_of (fun hb => hb.1 h5), set_ne _ _ (fun e => hdom d hfd (by rw [← e]; exact h5))])
    exact h4.rd
theorem fuse_spec (h : DRep F K d fp n s) {k : Int} {x : Sl} {kept : List Int} (hk : k ≤ 9223372036854775807) (hr : RdS F x 1 (i64s kept)) (hfit : x.len * 8 ≤ 140737488355328) :
    Spec prog 32 #[.pointer (some ⟨d, 0, none⟩), .int .i64 k, x.v] F fun v F' => v = .tuple #[] ∧ (∃ K, DRep F' K d fp n (s.setFuse k kept)) ∧ Step fp F fp F' :=
  (fuse_new h hk hr hfit).mono fun _ _ ⟨h1, h2, h3⟩ => ⟨h1, ⟨_, h2.le (mns_le _ _)⟩, h3⟩
theorem new_spec {k : Int} (F : PH) (hk : -9223372036854775808 ≤ k) (hk2 : k ≤ 9223372036854775807) : Spec prog 39 #[.int .i64 k] F fun v F' =>
    (k < 1 ∧ v = .tuple #[.pointer none, .int .i64 1] ∧ F' = F) ∨ (65536 < k ∧ v = .tuple #[.pointer none, .int .i64 2] ∧ F' = F) ∨
    (1 ≤ k ∧ k ≤ 65536 ∧ ∃ d fp, v = .tuple #[.pointer (some ⟨d, 0, none⟩), .int .i64 0] ∧ F.le F' ∧ DRep F' (fun _ => none) d fp k.toNat ⟨List.replicate (k.toNat * 64) 0, [], false, 0, []⟩ ∧ ∀ b, fp b → F b = none) := by
  refine c39 ?_
  unfold b39
  refine ⟨fun h1 => .inl ⟨h1, rfl, rfl⟩, fun h1 => ⟨fun h2 => .inr (.inl ⟨h2, rfl, rfl⟩), fun h2 => ?_⟩⟩
  have e : IntKind.i64.wrap (k * 64) = k * 64 := w64_eq (by omega) (by omega)
  rw [e]
  refine runs_makeSlice underlying39 sz5 zr5 rfl (by omega) (by omega) (by omega) (by omega) ?_
  intro g hg
  rw [zc1 _ rfl]
  refine ⟨_, rfl, ?_⟩
  intro b hb
  refine atI ?_
  have hgb : b ≠ g := by
    rintro rfl
    rw [set_eq] at hb
    cases hb
  have hb' : F b = none := by rw [set_ne _ _ hgb] at hb; exact hb
  have e2 : (k * 64).toNat = k.toNat * 64 := by omega
  refine .inr (.inr ⟨by omega, by omega, b, fun x => x = b ∨ x = g, rfl, le_trans' (le_set_fresh _ hg) (le_set_fresh _ hb), ⟨g, k.toNat * 64, [], Sl.nil, Sl.nil, ?_⟩, ?_⟩)
  · refine ⟨by rw [set_eq, e2]; rfl, by rw [set_ne _ _ hgb.symm, set_eq, e2]; simp, ⟨Nat.le_refl _, by simp⟩, .inl ⟨rfl, rfl⟩, rfl, RdS.nil _ _, (fun _ _ h => by cases h), ?_, ⟨by omega, by omega, by simp, by simp, by simp, by simp, by simp⟩⟩
    intro x
    constructor
    · rintro (h | h)
      · exact .inl h
      · exact .inr (.inl h)
    · rintro (h | h | ⟨a, ha, _⟩)
      · exact .inl h
      · exact .inr h
      · cases ha
  · rintro x (rfl | rfl)
    · exact hb'
    · exact hg
end
theorem OwnS.keepK {F G : PH} {e size : Nat} {s : Sl} {vs : List Value} {fp : Nat → Prop} (h : OwnS F e size s vs) (hk : Keep fp F G) (hn : ∀ a, s.base = some a → ¬ fp a.block) : OwnS G e size s vs := by
  rcases h with h | ⟨b, cur, h1, h2, h3⟩
  · exact .inl h
  · exact .inr ⟨b, cur, h1, hk _ _ h2 (hn _ h1), h3⟩
theorem mns_keep {F G : PH} {fp fq : Nat → Prop} (hk : Keep fq F G) (hs : ∀ b, fq b → fp b) : (mns F fp).le G := fun b o h => by
  unfold mns at h
  split at h
  · cases h
  · rename_i hn
    exact hk b o h (fun hq => hn (hs b hq))
section
variable {F K : PH} {d n : Nat} {fp : Nat → Prop} {s : DS}
theorem rd_data {F : PH} {b e : Nat} {w : Int × List Int} (h : F b = some (.cells (wcells w).toArray e (0, 0))) (hw : w.2.length = 64) : RdS F ⟨some ⟨b, 1, none⟩, 64, 64⟩ 1 (u8s w.2) :=
  ⟨by simp [hw], Nat.le_refl _, fun _ => ⟨b, 1, rfl, fun i hi => by
    rw [cell_eq h, Nat.add_comm 1 i]
    simp at hi ⊢⟩⟩
theorem crN_len {ws : List (Int × List Int)} {kept dur : List Int} {n : Nat} (hws : ∀ w ∈ ws, 0 ≤ w.1 ∧ w.1 < n ∧ w.2.length = 64) (hd : dur.length = n * 64) : ∀ k, (crN ws kept dur k).length = n * 64 := by
  intro k
  induction k with
  | zero => exact hd
  | succ k ih =>
    unfold crN
    split
    · rename_i w hw
      have := hws w (List.mem_of_getElem? hw)
      unfold crStep
      split
      · rw [ovr_len, ih]
        simp only [List.length_take]
        rw [ih]
        omega
      · exact ih
    · exact ih
theorem flN_len {ws : List (Int × List Int)} {dur : List Int} {n : Nat} (hws : ∀ w ∈ ws, 0 ≤ w.1 ∧ w.1 < n ∧ w.2.length = 64) (hd : dur.length = n * 64) : ∀ k, (flN ws dur k).length = n * 64 := by
  intro k
  induction k with
  | zero => exact hd
  | succ k ih =>
    unfold flN
    split
    · rename_i w hw
      have := hws w (List.mem_of_getElem? hw)
      rw [ovr_len, ih]
      rw [ih]
      omega
    · exact ih
theorem crash_spec (h : DRep F K d fp n s) {x : Sl} {kl : List Int} (hr : RdS (mns F fp) x 1 (i64s kl)) :
    Spec prog 68 #[.pointer (some ⟨d, 0, none⟩), x.v] F fun v F' => v = .tuple #[] ∧ ∃ fp', DRep F' K d fp' n (s.crash kl) ∧ Step fp F fp' F' := by
  have hrep := h
  obtain ⟨bd, dc, tl, wsl, ksl, h⟩ := h
  have hne := h.ne_db
  have hwb := h.wblock
  have hfd : fp d := (h.hf d).2 (.inl rfl)
  have hfb : fp bd := (h.hf bd).2 (.inr (.inl rfl))
  have hok := h.ok
  have hwl := hok.wl
  have hxl := hr.len
  simp at hxl
  refine c68 ?_
  unfold b68
  refine ⟨_, rfl, s.down, hdcell h.hd rfl, fun hdn => ?_, fun hdn => ?_⟩
  · exact ⟨rfl, fp, by rw [DS.crash, if_pos hdn]; exact hrep, Step.refl _ _⟩
  refine ⟨wsl, hdcell h.hd rfl, ?_⟩
  refine ⟨fun m i F' => ∃ k : Nat, i = k ∧ k ≤ s.ws.length ∧ m = s.ws.length - k ∧ Keep (· = bd) F F' ∧ F' bd = some (.cells (u8s (crN s.ws kl s.dur k) ++ tl).toArray 5 (0, 0)), s.ws.length,
    ⟨0, rfl, by omega, rfl, Keep.refl _ _, h.hb⟩, ?_⟩
  rintro m i F' ⟨k, rfl, hk, rfl, hkeep, hbd⟩
  unfold b68L1
  have hd' : F' d = _ := hkeep _ _ h.hd hne
  refine ⟨fun hlt => ?_, fun hge => ?_⟩
  · rw [h.hl] at hlt
    have hk' : k < s.ws.length := by omega
    have hrd : RdS F' wsl 65 (flat s.ws) := (h.hw.keepK hkeep (fun a ha => (hwb a ha).2)).rd
    have hws : ∀ w ∈ s.ws, w.2.length = 64 := fun w hw => (hok.ws w hw).2.2
    have hwk := hok.ws s.ws[k] (List.getElem_mem _)
    obtain ⟨b, o, hbase, _⟩ := hrd.cells (by rw [h.hl]; omega)
    have hcl := crN_len (kept := kl) hok.ws hok.dur k
    refine ⟨_, hbase, by omega, by rw [h.hl]; omega, (wcells s.ws[k]).toArray, by simp [hwk.2.2], ?_, ?_⟩
    · refine hrd.row hbase _ _ ?_
      have := flat_at hws hk'
      simp only [Int.toNat_natCast]
      rw [show (wcells s.ws[k]).toArray.size = 65 by simp [hwk.2.2], this]
    intro b5 hb5
    refine atI ?_
    refine stW (set_eq _ _ _) (by simp [hwk.2.2]) (by simp) (by simpa using st_wcells) ?_
    rw [set_twice]
    have hfresh : ∀ c o, F' c = some o → c ≠ b5 := fun c o hc => ne_of_fresh hb5 hc
    have hle2 : F'.le (F'.set b5 (.cells (wcells s.ws[k]).toArray 102)) := le_set_fresh _ hb5
    have hbd5 : bd ≠ b5 := hfresh _ _ hbd
    have hkeep2 : Keep (· = bd) F (F'.set b5 (.cells (wcells s.ws[k]).toArray 102)) := hkeep.trans (Keep.of_le hle2)
    refine ⟨fun hlk => ?_, fun hnk => ?_⟩
    · have hkx : k < kl.length := by omega
      have hr2 : RdS (F'.set b5 (.cells (wcells s.ws[k]).toArray 102)) x 1 (i64s kl) := hr.le (mns_keep hkeep2 (fun b hb => by rw [hb]; exact hfb))
      obtain ⟨p, hp, hpc⟩ := hr2.byte hkx
      obtain ⟨q, hq⟩ : ∃ q : Nat, s.ws[k].1 = q := ⟨s.ws[k].1.toNat, by omega⟩
      obtain ⟨nn, hnn⟩ : ∃ nn : Nat, nn = (min (max kl[k] 0) 64).toNat := ⟨_, rfl⟩
      refine ⟨p, hp, by omega, by omega, _, hpc, q, by rw [cell_set_eq]; simp [hq], by omega, by omega, by omega, ?_⟩
      refine (sector_spec (bd := bd) (wsl := wsl) (ksl := ksl) (n := n) (by rw [cell_set_ne _ _ (hfresh _ _ hd'), cell_eq hd']; rfl) hok.n2 h.hc.1 (i := q) (by omega)).mono ?_
      rintro v F3 ⟨rfl, rfl⟩
      refine ⟨_, rfl, ?_⟩
      rw [← hnn]
      have hcut := (rd_data (set_eq F' b5 (.cells (wcells s.ws[k]).toArray 102)) hwk.2.2).cut (l := 0) (r := nn) (m := 64) (by omega) (by simp only; omega) (by omega)
      have hlen : ((List.drop (0 * 1) (u8s s.ws[k].2)).take ((nn - 0) * 1)) = u8s (s.ws[k].2.take nn) := by simp [List.map_take]
      rw [hlen] at hcut
      have hstep : crN s.ws kl s.dur (k + 1) = ovr (crN s.ws kl s.dur k) (q * 64) (s.ws[k].2.take nn) := by
        rw [crN, List.getElem?_eq_getElem hk']
        simp only [crStep, List.getElem?_eq_getElem hkx, hq, Int.toNat_natCast, hnn]
      refine runs_copy underlying39 rfl sz5 hcut st_u8s ?_ ?_
      · intro h0
        have h0' : nn = 0 := by simp only [Sl.cut] at h0; omega
        refine ⟨_, rfl, ?_⟩
        refine ⟨s.ws.length - (k + 1), by omega, k + 1, w64s (by omega), by omega, rfl, hkeep2, ?_⟩
        rw [set_ne _ _ hbd5, hbd, hstep, h0']
        simp [ovr]
      · intro h0
        have hmin : min (Sl.cut ⟨some ⟨b5, 1, none⟩, 64, 64⟩ 1 0 nn 64).len (Sl.mk (some ⟨bd, q * 64, none⟩) 64 64).len * 1 = nn := by simp only [Sl.cut]; omega
        rw [hmin]
        refine ⟨bd, q * 64, _, _, rfl, by rw [set_ne _ _ hbd5]; exact hbd, by simp [hcl]; omega, _, rfl, ?_⟩
        have hnl : (s.ws[k].2.take nn).length = nn := by simp; omega
        rw [List.take_of_length_le (by simp; omega), wr_u8t (by rw [hcl, hnl]; omega)]
        refine ⟨s.ws.length - (k + 1), by omega, k + 1, w64s (by omega), by omega, rfl, hkeep2.trans (Keep.set _ (.inl rfl)), ?_⟩
        rw [set_eq, hstep]
    · refine ⟨s.ws.length - (k + 1), by omega, k + 1, w64s (by omega), by omega, rfl, hkeep2, ?_⟩
      rw [set_ne _ _ hbd5, hbd, crN, List.getElem?_eq_getElem hk']
      have : kl[k]? = none := List.getElem?_eq_none (by omega)
      simp only [crStep, this]
  · rw [h.hl] at hge
    obtain rfl : k = s.ws.length := by omega
    unfold b68j1
    refine st1' (b := d) (o := 1) (by simp) hd' (by simp) ?_
    refine st1' (b := d) (o := 4) (by simp) (set_eq _ _ _) (by simp) ?_
    rw [set_twice]
    refine st1' (b := d) (o := 3) (by simp) (set_eq _ _ _) (by simp) ?_
    rw [set_twice]
    refine st1' (b := d) (o := 2) (by simp) (set_eq _ _ _) (by simp) ?_
    rw [set_twice]
    have hst : Step fp F (fun b => b = d ∨ b = bd) (F'.set d (.cells (#[Sl.v ⟨some ⟨bd, 0, none⟩, n * 64, dc⟩, Sl.v Sl.nil, .bool true, .int .i64 0, Sl.v Sl.nil]) 99)) := by
      refine ⟨?_, ?_⟩
      · refine (hkeep.mono (fq := fp) (fun b hb => by rw [hb]; exact hfb)).trans (Keep.set _ (.inl hfd))
      · rintro b (rfl | rfl)
        · exact .inl hfd
        · exact .inl hfb
    refine ⟨rfl, fun b => b = d ∨ b = bd, ⟨bd, dc, tl, Sl.nil, Sl.nil, ?_⟩, ?_⟩
    · rw [DS.crash, if_neg (by simp [hdn])]
      refine ⟨by rw [set_eq]; rfl, by rw [set_ne _ _ hne.symm]; exact hbd, ⟨h.hc.1, by rw [crN_len hok.ws hok.dur]; have := h.hc.2; rw [hok.dur] at this; exact this⟩, .inl ⟨rfl, rfl⟩, rfl, RdS.nil _ _, le_trans' h.hK hst.le, ?_, ⟨hok.n1, hok.n2, crN_len hok.ws hok.dur _, by simp, by simp, by simp, by simp⟩⟩
      intro x
      constructor
      · rintro (h | h)
        · exact .inl h
        · exact .inr (.inl h)
      · rintro (h | h | ⟨a, ha, _⟩)
        · exact .inl h
        · exact .inr h
        · cases ha
    · exact hst
theorem ready_spec (h : DRep F K d fp n s) : Spec prog 56 #[.pointer (some ⟨d, 0, none⟩)] F fun v F' => v = .int .i64 s.ready.2 ∧ ∃ fp', DRep F' K d fp' n s.ready.1 ∧ Step fp F fp' F' := by
  have hrep := h
  obtain ⟨bd, dc, tl, wsl, ksl, h⟩ := h
  have hne := h.ne_db
  have hwb := h.wblock
  have hfd : fp d := (h.hf d).2 (.inl rfl)
  obtain ⟨o1, o2, o3, o4, o5, o6, o7⟩ := h.ok
  refine c56 ?_
  unfold b56
  refine ⟨_, rfl, s.down, hdcell h.hd rfl, fun hdn => ?_, fun hdn => ?_⟩
  · have e : s.ready = (s, 340) := by simp [DS.ready, hdn]
    rw [e]
    exact ⟨rfl, fp, hrep, Step.refl _ _⟩
  refine ⟨s.fuse, hdcell h.hd rfl, fun h1 => ?_, fun h1 => ?_⟩
  · refine ⟨ksl, hdcell h.hd rfl, ?_⟩
    refine (crash_spec hrep (h.hk.le h.hK)).mono ?_
    rintro v F' ⟨rfl, fp', hr, hst⟩
    have e : s.ready = (s.crash s.kept, 340) := by simp [DS.ready, hdn, h1]
    rw [e]
    exact ⟨rfl, rfl, fp', hr, hst⟩
  · refine ⟨s.fuse, hdcell h.hd rfl, ?_⟩
    rw [w64_eq (by omega) (by omega)]
    refine st1' (b := d) (o := 3) (by simp) h.hd (by simp) ?_
    have e : s.ready = ({ s with fuse := max (s.fuse - 1) 0 }, 0) := by simp [DS.ready, hdn, h1]
    rw [e]
    have hst : Step fp F fp (F.set d (.cells (#[Sl.v ⟨some ⟨bd, 0, none⟩, n * 64, dc⟩, Sl.v wsl, .bool s.down, .int .i64 s.fuse, Sl.v ksl].setIfInBounds 3 (.int .i64 (max (s.fuse - 1) 0))) 99)) := ⟨Keep.set _ (.inl hfd), fun _ h => .inl h⟩
    refine ⟨rfl, fp, ⟨bd, dc, tl, wsl, ksl, ?_⟩, hst⟩
    exact ⟨by rw [set_eq]; rfl, by rw [set_ne _ _ hne.symm]; exact h.hb, h.hc, h.hw.keep (fun a ha => set_ne _ _ (hwb a ha).1), h.hl, h.hk, le_trans' h.hK hst.le, h.hf, ⟨o1, o2, o3, by simp only; omega, by simp only; omega, o6, o7⟩⟩
theorem flat_snoc (ws : List (Int × List Int)) (w : Int × List Int) : flat (ws ++ [w]) = flat ws ++ wcells w := by simp [flat]
theorem write_spec (h : DRep F K d fp n s) {x : Sl} {at_ : Int} {l : List Int} (hr : RdS (mns F fp) x 1 (u8s l)) (hwl : s.ws.length < 1000) (hll : l.length ≤ 9223372036854775807) :
    Spec prog 29 #[.pointer (some ⟨d, 0, none⟩), .int .i64 at_, x.v] F fun v F' => v = .int .i64 (s.write n at_ l).2 ∧ ∃ fp', DRep F' K d fp' n (s.write n at_ l).1 ∧ Step fp F fp' F' := by
  have hxl := hr.len
  simp at hxl
  refine c29 ?_
  unfold b29
  refine ⟨fun h1 => ?_, fun h1 => ?_⟩
  · have e : s.write n at_ l = (s, 1) := by unfold DS.write; rw [if_pos (.inl h1)]
    rw [e]
    exact ⟨rfl, fp, h, Step.refl _ _⟩
  refine (sectors_spec h).mono ?_
  rintro v F1 ⟨rfl, rfl⟩
  refine ⟨_, rfl, fun h2 => ?_, fun h2 => ?_⟩
  · have e : s.write n at_ l = (s, 1) := by unfold DS.write; rw [if_pos (.inr (.inl h2))]
    rw [e]
    exact ⟨rfl, fp, h, Step.refl _ _⟩
  refine ⟨fun h3 => ?_, fun h3 => ?_⟩
  · have e : s.write n at_ l = (s, 1) := by unfold DS.write; rw [if_pos (.inr (.inr (by omega)))]
    rw [e]
    exact ⟨rfl, fp, h, Step.refl _ _⟩
  have hl64 : l.length = 64 := by omega
  have hcond : ¬ (at_ < 0 ∨ (n : Int) ≤ at_ ∨ l.length ≠ 64) := by omega
  refine (ready_spec h).mono ?_
  rintro v F2 ⟨rfl, fq, hrep, hst⟩
  refine ⟨_, rfl, fun h4 => ?_, fun h4 => ?_⟩
  · have e : s.write n at_ l = s.ready := by unfold DS.write; rw [if_neg hcond, if_pos h4]
    rw [e]
    exact ⟨rfl, fq, hrep, hst⟩
  have e : s.write n at_ l = ({ s.ready.1 with ws := s.ready.1.ws ++ [(at_, l)] }, 0) := by unfold DS.write; rw [if_neg hcond, if_neg h4]
  rw [e]
  have hrl : s.ready.1.ws.length ≤ s.ws.length := by
    unfold DS.ready DS.crash
    split
    · exact Nat.le_refl _
    · split
      · exact Nat.zero_le _
      · exact Nat.le_refl _
  generalize s.ready.1 = s1 at *
  have hr2 : RdS (mns F2 fq) x 1 (u8s l) := hr.le hst.le
  have hdom2 := hrep.dom
  obtain ⟨bd, dc, tl, wsl, ksl, hm⟩ := hrep
  have hne := hm.ne_db
  have hwb := hm.wblock
  have hfd : fq d := (hm.hf d).2 (.inl rfl)
  have hfb : fq bd := (hm.hf bd).2 (.inr (.inl rfl))
  obtain ⟨o1, o2, o3, o4, o5, o6, o7⟩ := hm.ok
  intro b8 hb8
  refine atI ?_
  have hfresh : ∀ c o, F2 c = some o → c ≠ b8 := fun c o hc => ne_of_fresh hb8 hc
  refine stW (set_eq _ _ _) (by simp) (by simp) ?_ ?_
  · intro v hv
    simp at hv
    rcases hv with rfl | rfl <;> exact st_int
  rw [set_twice]
  -- the data are copied into the new variable
  refine runs_copy (vs := u8s l) underlying39 rfl sz5 (hr2.le (le_trans' (mns_le _ _) (le_set_fresh _ hb8))) st_u8s (fun h0 => ?_) (fun _ => ?_)
  · simp only [Sl.cut] at h0; omega
  have hmin : min x.len (Sl.cut ⟨some ⟨b8, 1, none⟩, 64, 64⟩ 1 0 64 64).len * 1 = 64 := by simp only [Sl.cut]; omega
  rw [hmin]
  refine ⟨b8, 1, _, _, rfl, set_eq _ _ _, by simp, ?_⟩
  rw [set_twice, List.take_of_length_le (by simp [hl64])]
  have hcells : wr ((#[Value.int .i64 0] ++ Array.replicate 64 (Value.int .u8 0)).setIfInBounds 0 (Value.int .i64 at_)) 1 (u8s l) = (wcells (at_, l)).toArray := by
    have : ((#[Value.int .i64 0] ++ Array.replicate 64 (Value.int .u8 0)).setIfInBounds 0 (Value.int .i64 at_)) = (Value.int .i64 at_ :: List.replicate 64 (Value.int .u8 0)).toArray := by
      apply Array.ext'; simp
    rw [this, wr_list _ _ _ (by simp [hl64])]
    simp [hl64]
  rw [hcells]
  refine ⟨_, rfl, ⟨d, 0, none⟩, rfl, ?_⟩
  have hle3 : F2.le (F2.set b8 (.cells (wcells (at_, l)).toArray 102)) := le_set_fresh _ hb8
  have hd3 := hle3 _ _ hm.hd
  refine ⟨wsl, hdcell hd3 rfl, ?_⟩
  have hlen65 : (wcells (at_, l)).toArray.size = 65 := by simp [hl64]
  refine ⟨(wcells (at_, l)).toArray, hlen65, ?_, hlen65, ?_⟩
  · intro i hi
    rw [add_mk, cell_set_eq]
    simp
  intro b39 hb39
  refine atI ?_
  have hle4 := le_set_fresh (.cells (wcells (at_, l)).toArray 102) hb39
  have hle := le_trans' hle3 hle4
  have hb39' : F2 b39 = none := le_none hle3 hb39
  refine own_append underlying97 sz102 zr102 rfl (by decide) ((hm.hw.keepK (fp := fun _ => False) (Keep.of_le hle) (fun _ _ h => h))) (x := ⟨some ⟨b39, 0, none⟩, 1, 1⟩) (news := wcells (at_, l))
    (RdS.new (set_eq _ _ _) (by rw [List.take_of_length_le (by simp [hl64])]) (by simp [hl64]) (Nat.le_refl _)) (by simp) st_wcells (by have := hm.hl; simp only; omega) (by have := hm.hl; simp only; omega) ?_
  rintro s' F' b ob rfl hown hlen hbase hblk
  refine ⟨s', rfl, ?_⟩
  have hdb : d ≠ b := by
    rintro rfl
    rcases hblk with ⟨a, ha, hab⟩ | hn
    · exact (hwb a ha).1 hab
    · rw [hle _ _ hm.hd] at hn; cases hn
  have hbdb : bd ≠ b := by
    rintro rfl
    rcases hblk with ⟨a, ha, hab⟩ | hn
    · exact (hwb a ha).2 hab
    · rw [hle _ _ hm.hb] at hn; cases hn
  have hnewb : fq b ∨ F2 b = none := by
    rcases hblk with ⟨a, ha, hab⟩ | hn
    · exact .inl ((hm.hf b).2 (.inr (.inr ⟨a, ha, hab.symm⟩)))
    · exact .inr (le_none hle hn)
  refine st1' (b := d) (o := 1) (by simp) (by rw [set_ne _ _ hdb]; exact hle _ _ hm.hd) (by simp) ?_
  refine ⟨rfl, fun x => x = d ∨ x = bd ∨ x = b, ⟨bd, dc, tl, s', ksl, ?_⟩, hst.trans ?_⟩
  · have hkeepk : (mns F2 fq).le (mns (((((F2.set b8 (.cells (wcells (at_, l)).toArray 102)).set b39 (.cells (wcells (at_, l)).toArray 102)).set b ob).set d (.cells (#[Sl.v ⟨some ⟨bd, 0, none⟩, n * 64, dc⟩, Sl.v wsl, .bool s1.down, .int .i64 s1.fuse, Sl.v ksl].setIfInBounds 1 (Sl.v s')) 99))) (fun x => x = d ∨ x = bd ∨ x = b)) := by
      intro y o hy
      have hy' := mns_le _ _ _ _ hy
      have hnf : ¬ fq y := fun hq => by unfold mns at hy; rw [if_pos hq] at hy; cases hy
      have h1 : y ≠ d := fun e => hnf (e ▸ hfd)
      have h2 : y ≠ bd := fun e => hnf (e ▸ hfb)
      have h3 : y ≠ b := fun e => by
        subst e
        rcases hnewb with h | h
        · exact hnf h
        · rw [h] at hy'; cases hy'
      rw [mns_of (by rintro (h | h | h) <;> contradiction), set_ne _ _ h1, set_ne _ _ h3]
      exact hle _ _ hy'
    refine ⟨by rw [set_eq]; rfl, by rw [set_ne _ _ hne.symm, set_ne _ _ hbdb]; exact hle _ _ hm.hb, hm.hc, ?_, ?_, hm.hk, le_trans' hm.hK hkeepk, ?_, ⟨o1, o2, o3, o4, o5, ?_, ?_⟩⟩
    · rw [flat_snoc]
      refine hown.keep (fun a ha => set_ne _ _ ?_)
      rw [hbase a ha]
      exact hdb.symm
    · rw [hlen, hm.hl]; simp
    · intro y
      constructor
      · rintro (h | h | h)
        · exact .inl h
        · exact .inr (.inl h)
        · rcases hown with ⟨_, hnil⟩ | ⟨g, cur, hg, _⟩
          · have := congrArg List.length hnil; simp [hl64] at this
          · exact .inr (.inr ⟨_, hg, by rw [hbase _ hg]; exact h⟩)
      · rintro (h | h | ⟨a, ha, h⟩)
        · exact .inl h
        · exact .inr (.inl h)
        · exact .inr (.inr (by rw [h, hbase a ha]))
    · intro w hw
      rcases List.mem_append.1 hw with hw | hw
      · exact o6 w hw
      · simp at hw; subst hw; exact ⟨by simp only; omega, by simp only; omega, hl64⟩
    · simp; omega
  · refine ⟨?_, ?_⟩
    · refine (Keep.of_le hle).trans ((Keep.set _ ?_).trans (Keep.set _ (.inl hfd)))
      rcases hblk with ⟨a, ha, hab⟩ | hn
      · exact .inl ((hm.hf b).2 (.inr (.inr ⟨a, ha, hab.symm⟩)))
      · exact .inr hn
    · rintro y (rfl | rfl | rfl)
      · exact .inl hfd
      · exact .inl hfb
      · exact hnewb
end
section
variable {F K : PH} {d n : Nat} {fp : Nat → Prop} {s : DS}
theorem flush_spec (h : DRep F K d fp n s) : Spec prog 69 #[.pointer (some ⟨d, 0, none⟩)] F fun v F' => v = .int .i64 s.flush.2 ∧ ∃ fp', DRep F' K d fp' n s.flush.1 ∧ Step fp F fp' F' := by
  refine c69 ?_
  unfold b69
  refine (ready_spec h).mono ?_
  rintro v F2 ⟨rfl, fq, hrep, hst⟩
  refine ⟨_, rfl, fun h4 => ?_, fun h4 => ?_⟩
  · have e : s.flush = s.ready := by unfold DS.flush; rw [if_pos h4]
    rw [e]
    exact ⟨rfl, fq, hrep, hst⟩
  have e : s.flush = ({ s.ready.1 with dur := flN s.ready.1.ws s.ready.1.dur s.ready.1.ws.length, ws := [] }, 0) := by unfold DS.flush; rw [if_neg h4]
  rw [e]
  clear e h4
  generalize s.ready.1 = s1 at *
  obtain ⟨bd, dc, tl, wsl, ksl, hm⟩ := hrep
  have hne := hm.ne_db
  have hwb := hm.wblock
  have hfd : fq d := (hm.hf d).2 (.inl rfl)
  have hfb : fq bd := (hm.hf bd).2 (.inr (.inl rfl))
  have hok := hm.ok
  have hwl := hok.wl
  refine ⟨_, rfl, wsl, hdcell hm.hd rfl, ?_⟩
  refine ⟨fun m i F' => ∃ k : Nat, i = k ∧ k ≤ s1.ws.length ∧ m = s1.ws.length - k ∧ Keep (· = bd) F2 F' ∧ F' bd = some (.cells (u8s (flN s1.ws s1.dur k) ++ tl).toArray 5 (0, 0)), s1.ws.length,
    ⟨0, rfl, by omega, rfl, Keep.refl _ _, hm.hb⟩, ?_⟩
  rintro m i F' ⟨k, rfl, hk, rfl, hkeep, hbd⟩
  unfold b69L1
  have hd' : F' d = _ := hkeep _ _ hm.hd hne
  refine ⟨fun hlt => ?_, fun hge => ?_⟩
  · rw [hm.hl] at hlt
    have hk' : k < s1.ws.length := by omega
    have hrd : RdS F' wsl 65 (flat s1.ws) := (hm.hw.keepK hkeep (fun a ha => (hwb a ha).2)).rd
    have hws : ∀ w ∈ s1.ws, w.2.length = 64 := fun w hw => (hok.ws w hw).2.2
    have hwk := hok.ws s1.ws[k] (List.getElem_mem _)
    obtain ⟨b, o, hbase, _⟩ := hrd.cells (by rw [hm.hl]; omega)
    have hcl := flN_len hok.ws hok.dur k
    refine ⟨_, hbase, by omega, by rw [hm.hl]; omega, (wcells s1.ws[k]).toArray, by simp [hwk.2.2], ?_, ?_⟩
    · refine hrd.row hbase _ _ ?_
      have := flat_at hws hk'
      simp only [Int.toNat_natCast]
      rw [show (wcells s1.ws[k]).toArray.size = 65 by simp [hwk.2.2], this]
    intro b5 hb5
    refine atI ?_
    refine stW (set_eq _ _ _) (by simp [hwk.2.2]) (by simp) (by simpa using st_wcells) ?_
    rw [set_twice]
    have hfresh : ∀ c o, F' c = some o → c ≠ b5 := fun c o hc => ne_of_fresh hb5 hc
    have hle2 : F'.le (F'.set b5 (.cells (wcells s1.ws[k]).toArray 102)) := le_set_fresh _ hb5
    have hbd5 : bd ≠ b5 := hfresh _ _ hbd
    have hkeep2 : Keep (· = bd) F2 (F'.set b5 (.cells (wcells s1.ws[k]).toArray 102)) := hkeep.trans (Keep.of_le hle2)
    obtain ⟨q, hq⟩ : ∃ q : Nat, s1.ws[k].1 = q := ⟨s1.ws[k].1.toNat, by omega⟩
    refine ⟨q, by rw [cell_set_eq]; simp [hq], ?_⟩
    refine (sector_spec (bd := bd) (wsl := wsl) (ksl := ksl) (n := n) (by rw [cell_set_ne _ _ (hfresh _ _ hd'), cell_eq hd']; rfl) hok.n2 hm.hc.1 (i := q) (by omega)).mono ?_
    rintro v F3 ⟨rfl, rfl⟩
    refine ⟨_, rfl, ?_⟩
    have hcut := (rd_data (set_eq F' b5 (.cells (wcells s1.ws[k]).toArray 102)) hwk.2.2).cut (l := 0) (r := 64) (m := 64) (by omega) (by simp only; omega) (by omega)
    have hlen : ((List.drop (0 * 1) (u8s s1.ws[k].2)).take ((64 - 0) * 1)) = u8s s1.ws[k].2 := by rw [Nat.zero_mul, List.drop_zero, List.take_of_length_le (by simp [hwk.2.2])]
    rw [hlen] at hcut
    have hstep : flN s1.ws s1.dur (k + 1) = ovr (flN s1.ws s1.dur k) (q * 64) s1.ws[k].2 := by
      rw [flN, List.getElem?_eq_getElem hk']
      simp only [hq, Int.toNat_natCast]
    refine runs_copy underlying39 rfl sz5 hcut st_u8s (fun h0 => ?_) (fun _ => ?_)
    · simp only [Sl.cut] at h0; omega
    have hmin : min (Sl.cut ⟨some ⟨b5, 1, none⟩, 64, 64⟩ 1 0 64 64).len (Sl.mk (some ⟨bd, q * 64, none⟩) 64 64).len * 1 = 64 := by simp only [Sl.cut]; omega
    rw [hmin]
    refine ⟨bd, q * 64, _, _, rfl, by rw [set_ne _ _ hbd5]; exact hbd, by simp [hcl]; omega, _, rfl, ?_⟩
    rw [List.take_of_length_le (by simp [hwk.2.2]), wr_u8t (by rw [hcl, hwk.2.2]; omega)]
    refine ⟨s1.ws.length - (k + 1), by omega, k + 1, w64s (by omega), by omega, rfl, hkeep2.trans (Keep.set _ (.inl rfl)), ?_⟩
    rw [set_eq, hstep]
  · rw [hm.hl] at hge
    obtain rfl : k = s1.ws.length := by omega
    unfold b69j1
    refine ⟨_, rfl, ?_⟩
    refine st1' (b := d) (o := 1) (by simp) hd' (by simp) ?_
    have hkq : Step fq F2 (fun b => b = d ∨ b = bd) (F'.set d (.cells (#[Sl.v ⟨some ⟨bd, 0, none⟩, n * 64, dc⟩, Sl.v wsl, .bool s1.down, .int .i64 s1.fuse, Sl.v ksl].setIfInBounds 1 (Sl.v Sl.nil)) 99)) := by
      refine ⟨(hkeep.mono (fq := fq) (fun b hb => by rw [hb]; exact hfb)).trans (Keep.set _ (.inl hfd)), ?_⟩
      rintro b (rfl | rfl)
      · exact .inl hfd
      · exact .inl hfb
    refine ⟨rfl, fun b => b = d ∨ b = bd, ⟨bd, dc, tl, Sl.nil, ksl, ?_⟩, hst.trans hkq⟩
    refine ⟨by rw [set_eq]; rfl, by rw [set_ne _ _ hne.symm]; exact hbd, ⟨hm.hc.1, by rw [flN_len hok.ws hok.dur]; have := hm.hc.2; rw [hok.dur] at this; exact this⟩, .inl ⟨rfl, rfl⟩, rfl, hm.hk, le_trans' hm.hK hkq.le, ?_, ⟨hok.n1, hok.n2, flN_len hok.ws hok.dur _, hok.fuse0, hok.fuse1, by simp, by simp⟩⟩
    intro x
    constructor
    · rintro (h | h)
      · exact .inl h
      · exact .inr (.inl h)
    · rintro (h | h | ⟨a, ha, _⟩)
      · exact .inl h
      · exact .inr h
      · cases ha
theorem rdN_len {ws : List (Int × List Int)} {at_ : Int} {l : List Int} {n : Nat} (hws : ∀ w ∈ ws, 0 ≤ w.1 ∧ w.1 < n ∧ w.2.length = 64) (hl : l.length = 64) : ∀ k, (DS.rdN ws at_ l k).length = 64 := by
  intro k
  induction k with
  | zero => exact hl
  | succ k ih =>
    unfold DS.rdN
    split
    · rename_i w hw
      split
      · exact (hws w (List.mem_of_getElem? hw)).2.2
      · exact ih
    · exact ih
theorem read_spec (h : DRep F K d fp n s) {at_ : Int} : Spec prog 38 #[.pointer (some ⟨d, 0, none⟩), .int .i64 at_] F fun v F' => F.le F' ∧
    ((∃ e, v = .tuple #[Sl.v Sl.nil, .int .i64 e] ∧ s.read n at_ = ([], e) ∧ e ≠ 0) ∨
     (∃ g l, F g = none ∧ v = .tuple #[Sl.v ⟨some ⟨g, 0, none⟩, 64, 64⟩, .int .i64 0] ∧ F' g = some (.cells (u8s l).toArray 5 (0, 0)) ∧ s.read n at_ = (l, 0) ∧ l.length = 64)) := by
  refine c38 ?_
  unfold b38
  refine ⟨fun h1 => ?_, fun h1 => ?_⟩
  · refine ⟨le_refl' _, .inl ⟨1, rfl, ?_, by decide⟩⟩
    unfold DS.read; rw [if_pos (.inl h1)]
  refine (sectors_spec h).mono ?_
  rintro v F1 ⟨rfl, rfl⟩
  refine ⟨_, rfl, fun h2 => ?_, fun h2 => ?_⟩
  · refine ⟨le_refl' _, .inl ⟨1, rfl, ?_, by decide⟩⟩
    unfold DS.read; rw [if_pos (.inr h2)]
  have hcond : ¬ (at_ < 0 ∨ (n : Int) ≤ at_) := by omega
  obtain ⟨bd, dc, tl, wsl, ksl, hm⟩ := h
  have hok := hm.ok
  have hwl := hok.wl
  refine ⟨_, rfl, s.down, hdcell hm.hd rfl, fun h3 => ?_, fun h3 => ?_⟩
  · refine ⟨le_refl' _, .inl ⟨340, rfl, ?_, by decide⟩⟩
    unfold DS.read; rw [if_neg hcond, if_pos h3]
  obtain ⟨q, rfl⟩ : ∃ q : Nat, at_ = q := ⟨at_.toNat, by omega⟩
  have hread : s.read n q = (DS.rdN s.ws q (s.sect q) s.ws.length, 0) := by unfold DS.read; rw [if_neg hcond, if_neg (by simp [h3])]; rfl
  have hq : q < n := by omega
  have hsl : (s.sect q).length = 64 := by simp [DS.sect, hok.dur]; omega
  refine runs_makeSlice underlying39 sz5 zr5 rfl (by decide) (by decide) (by decide) (by decide) ?_
  intro g hg
  rw [zc1 _ rfl]
  refine ⟨_, rfl, ?_⟩
  have hle1 : F1.le (F1.set g (.cells (List.replicate (Int.toNat 64) (Value.int .u8 0)).toArray 5)) := le_set_fresh _ hg
  have hd1 := hle1 _ _ hm.hd
  have hb1 := hle1 _ _ hm.hb
  refine (sector_spec (bd := bd) (wsl := wsl) (ksl := ksl) (n := n) (by rw [cell_eq hd1]; rfl) hok.n2 hm.hc.1 (i := q) hq).mono ?_
  rintro v F3 ⟨rfl, rfl⟩
  refine ⟨_, rfl, ?_⟩
  have hsrd : RdS (F1.set g (.cells (List.replicate (Int.toNat 64) (Value.int .u8 0)).toArray 5)) ⟨some ⟨bd, q * 64, none⟩, 64, 64⟩ 1 (u8s (s.sect q)) := by
    refine ⟨by simp [hsl], Nat.le_refl _, fun _ => ⟨bd, q * 64, rfl, fun i hi => ?_⟩⟩
    rw [cell_eq hb1]
    simp [hsl] at hi
    have hdl := hok.dur
    simp [DS.sect, List.getElem_take, List.getElem_drop]
    rw [List.getElem?_append_left (by simp; omega)]
    simp
  refine runs_copy underlying39 rfl sz5 hsrd st_u8s (fun h0 => ?_) (fun _ => ?_)
  · simp at h0
  refine ⟨g, 0, _, _, rfl, set_eq _ _ _, by simp, _, rfl, ?_⟩
  have hw0 : wr (List.replicate (Int.toNat 64) (Value.int .u8 0)).toArray 0 (List.take (min 64 (Int.toNat 64) * 1) (u8s (s.sect q))) = (u8s (s.sect q)).toArray := by
    have e1 : List.take (min 64 (Int.toNat 64) * 1) (u8s (s.sect q)) = u8s (s.sect q) := List.take_of_length_le (by simp [hsl])
    rw [e1, wr_list _ _ _ (by simp [hsl])]
    simp [hsl]
  simp only at hw0 ⊢
  rw [hw0, set_twice]
  have hle2 : F1.le (F1.set g (.cells (u8s (s.sect q)).toArray 5)) := le_set_fresh _ hg
  refine ⟨wsl, hdcell (hle2 _ _ hm.hd) rfl, ?_⟩
  refine ⟨fun m i F' => ∃ k : Nat, i = k ∧ k ≤ s.ws.length ∧ m = s.ws.length - k ∧ F1.le F' ∧ F' g = some (.cells (u8s (DS.rdN s.ws q (s.sect q) k)).toArray 5 (0, 0)), s.ws.length,
    ⟨0, rfl, by omega, rfl, hle2, by rw [set_eq]; rfl⟩, ?_⟩
  rintro m i F' ⟨k, rfl, hk, rfl, hle, hgk⟩
  unfold b38L1
  refine ⟨fun hlt => ?_, fun hge => ?_⟩
  · rw [hm.hl] at hlt
    have hk' : k < s.ws.length := by omega
    have hrd : RdS F' wsl 65 (flat s.ws) := hm.hw.rd.le hle
    have hws : ∀ w ∈ s.ws, w.2.length = 64 := fun w hw => (hok.ws w hw).2.2
    have hwk := hok.ws s.ws[k] (List.getElem_mem _)
    obtain ⟨b, o, hbase, _⟩ := hrd.cells (by rw [hm.hl]; omega)
    refine ⟨_, hbase, by omega, by rw [hm.hl]; omega, (wcells s.ws[k]).toArray, by simp [hwk.2.2], ?_, ?_⟩
    · refine hrd.row hbase _ _ ?_
      have := flat_at hws hk'
      simp only [Int.toNat_natCast]
      rw [show (wcells s.ws[k]).toArray.size = 65 by simp [hwk.2.2], this]
    intro b8 hb8
    refine atI ?_
    refine stW (set_eq _ _ _) (by simp [hwk.2.2]) (by simp) (by simpa using st_wcells) ?_
    rw [set_twice]
    have hle3 : F1.le (F'.set b8 (.cells (wcells s.ws[k]).toArray 102)) := le_trans' hle (le_set_fresh _ hb8)
    have hgb8 : g ≠ b8 := ne_of_fresh hb8 hgk
    have hrdk := rdN_len (at_ := (q : Int)) (l := s.sect q) hok.ws hsl k
    refine ⟨s.ws[k].1, by rw [cell_set_eq]; simp, fun heq => ?_, fun hneq => ?_⟩
    · have hcut := (rd_data (set_eq F' b8 (.cells (wcells s.ws[k]).toArray 102)) hwk.2.2).cut (l := 0) (r := 64) (m := 64) (by omega) (by simp only; omega) (by omega)
      have hlen : ((List.drop (0 * 1) (u8s s.ws[k].2)).take ((64 - 0) * 1)) = u8s s.ws[k].2 := by rw [Nat.zero_mul, List.drop_zero, List.take_of_length_le (by simp [hwk.2.2])]
      rw [hlen] at hcut
      refine runs_copy underlying39 rfl sz5 hcut st_u8s (fun h0 => ?_) (fun _ => ?_)
      · simp [Sl.cut] at h0
      have hsz : (u8s (DS.rdN s.ws q (s.sect q) k)).toArray.size = 64 := by simp [hrdk]
      refine ⟨g, 0, _, _, rfl, by rw [set_ne _ _ hgb8]; exact hgk, by rw [hsz]; simp only [Sl.cut]; decide, _, rfl, ?_⟩
      have hmin : min (Sl.cut ⟨some ⟨b8, 1, none⟩, 64, 64⟩ 1 0 64 64).len (Sl.mk (some ⟨g, 0, none⟩) (Int.toNat 64) (Int.toNat 64)).len * 1 = 64 := by simp only [Sl.cut]; decide
      rw [hmin, List.take_of_length_le (by simp [hwk.2.2]), wr_u8 (by rw [hrdk, hwk.2.2]; omega)]
      have hov : ovr (DS.rdN s.ws q (s.sect q) k) 0 s.ws[k].2 = DS.rdN s.ws q (s.sect q) (k + 1) := by
        rw [DS.rdN, List.getElem?_eq_getElem hk']
        simp only [heq, if_true, ovr]
        rw [List.take_zero, List.nil_append, List.drop_of_length_le (by omega), List.append_nil]
      rw [hov]
      refine ⟨s.ws.length - (k + 1), by omega, k + 1, w64s (by omega), by omega, rfl, ?_, set_eq _ _ _⟩
      intro y o hy
      have : y ≠ g := fun e => by rw [e, hg] at hy; cases hy
      rw [set_ne _ _ this]
      exact hle3 _ _ hy
    · refine ⟨s.ws.length - (k + 1), by omega, k + 1, w64s (by omega), by omega, rfl, hle3, ?_⟩
      rw [set_ne _ _ hgb8, hgk, DS.rdN, List.getElem?_eq_getElem hk']
      simp only [if_neg hneq]
  · rw [hm.hl] at hge
    obtain rfl : k = s.ws.length := by omega
    unfold b38j1
    exact ⟨hle, .inr ⟨g, _, hg, rfl, hgk, hread, rdN_len hok.ws hsl _⟩⟩
end
theorem le_mns_new {F G : PH} {fp : Nat → Prop} (h : F.le G) (hf : ∀ b, fp b → F b = none) : F.le (mns G fp) := fun b o hb => by
  rw [mns_of (fun hp => by rw [hf b hp] at hb; cases hb)]
  exact h b o hb
theorem Step.fresh {F F1 F2 : PH} {fp fq : Nat → Prop} (h : Step fp F1 fq F2) (hle : F.le F1) (hf : ∀ b, fp b → F b = none) : F.le F2 ∧ ∀ b, fq b → F b = none := by
  refine ⟨fun b o hb => h.keep b o (hle b o hb) (fun hp => by rw [hf b hp] at hb; cases hb), fun b hb => ?_⟩
  rcases h.new b hb with h1 | h1
  · exact hf b h1
  · exact le_none hle h1
theorem mns_mono {F G : PH} {fp : Nat → Prop} (h : F.le G) : (mns F fp).le (mns G fp) := (Step.of_le h).le
theorem DS.ready_ws (s : DS) : s.ready.1.ws.length ≤ s.ws.length := by
  unfold DS.ready
  split
  · exact Nat.le_refl _
  · split
    · unfold DS.crash
      split
      · exact Nat.le_refl _
      · exact Nat.zero_le _
    · exact Nat.le_refl _
theorem DS.write_ws (s : DS) (n : Nat) (a : Int) (l : List Int) : (s.write n a l).1.ws.length ≤ s.ws.length + 1 := by
  have := s.ready_ws
  unfold DS.write
  split
  · exact Nat.le_succ _
  · split
    · omega
    · simp; omega
theorem DS.flush_ws (s : DS) : s.flush.1.ws.length ≤ s.ws.length := by
  have := s.ready_ws
  unfold DS.flush
  split
  · omega
  · simp
theorem rdN_pre {ws x : List (Int × List Int)} {a : Int} {l : List Int} : ∀ {k : Nat}, k ≤ ws.length → DS.rdN (ws ++ x) a l k = DS.rdN ws a l k := by
  intro k
  induction k with
  | zero => intro _; rfl
  | succ k ih =>
    intro h
    simp only [DS.rdN]
    rw [List.getElem?_append_left (by omega), ih (by omega)]
theorem rdN_snoc {ws : List (Int × List Int)} {w : Int × List Int} {a : Int} {l : List Int} : DS.rdN (ws ++ [w]) a l (ws ++ [w]).length = if w.1 = a then w.2 else DS.rdN ws a l ws.length := by
  rw [List.length_append, List.length_singleton]
  simp only [DS.rdN]
  rw [List.getElem?_append_right (Nat.le_refl _), Nat.sub_self]
  simp only [List.getElem?_cons_zero]
  rw [rdN_pre (Nat.le_refl _)]
def sec (dur : List Int) (a : Nat) : List Int := (dur.drop (a * 64)).take 64
theorem sec_get {dur : List Int} {a i : Nat} (hi : i < 64) : (sec dur a)[i]? = dur[a * 64 + i]? := by
  unfold sec
  rw [List.getElem?_take_of_lt hi, List.getElem?_drop]
theorem ovr_get {dur l : List Int} {o i : Nat} (h : o + l.length ≤ dur.length) : (ovr dur o l)[i]? = if o ≤ i ∧ i < o + l.length then l[i - o]? else dur[i]? := by
  unfold ovr
  by_cases h1 : i < o
  · rw [if_neg (by omega), List.append_assoc, List.getElem?_append_left (by simp; omega), List.getElem?_take_of_lt h1]
  · by_cases h2 : i < o + l.length
    · rw [if_pos ⟨by omega, h2⟩, List.getElem?_append_left (by simp; omega), List.getElem?_append_right (by simp; omega)]
      congr 1
      simp; omega
    · rw [if_neg (by omega), List.getElem?_append_right (by simp; omega), List.getElem?_drop]
      congr 1
      simp; omega
theorem sec_ovr {dur l : List Int} {w a n : Nat} (hd : dur.length = n * 64) (hl : l.length = 64) (hw : w < n) : sec (ovr dur (w * 64) l) a = if w = a then l else sec dur a := by
  apply List.ext_getElem?
  intro i
  by_cases hi : i < 64
  · rw [sec_get hi, ovr_get (by omega)]
    by_cases h : w = a
    · subst h
      rw [if_pos rfl, if_pos (by omega)]
      congr 1; omega
    · rw [if_neg h, if_neg (by omega), sec_get hi]
  · have e : ∀ x : List Int, x.length ≤ 64 → x[i]? = none := fun x hx => List.getElem?_eq_none (by omega)
    have h2 : (if w = a then l else sec dur a).length ≤ 64 := by
      by_cases h : w = a
      · rw [if_pos h]; omega
      · rw [if_neg h]; simp [sec]; omega
    rw [e _ (by simp [sec]; omega), e _ h2]
theorem sec_flN {ws : List (Int × List Int)} {dur : List Int} {n a : Nat} (hws : ∀ w ∈ ws, 0 ≤ w.1 ∧ w.1 < n ∧ w.2.length = 64) (hd : dur.length = n * 64) : ∀ k, sec (flN ws dur k) a = DS.rdN ws a (sec dur a) k := by
  intro k
  induction k with
  | zero => rfl
  | succ k ih =>
    simp only [flN, DS.rdN]
    cases hk : ws[k]? with
    | none => exact ih
    | some w =>
      have hm := hws w (List.mem_of_getElem? hk)
      simp only []
      rw [sec_ovr (flN_len hws hd k) hm.2.2 (by omega), ih]
      by_cases h : w.1 = (a : Int)
      · rw [if_pos (by omega), if_pos h]
      · rw [if_neg (by omega), if_neg h]
theorem sec_part {dur l : List Int} {w a n : Nat} (hd : dur.length = n * 64) (hl : l.length ≤ 64) (hw : w < n) : sec (ovr dur (w * 64) l) a = if w = a then l ++ (sec dur a).drop l.length else sec dur a := by
  apply List.ext_getElem?
  intro i
  by_cases hi : i < 64
  · rw [sec_get hi, ovr_get (by omega)]
    by_cases h : w = a
    · subst h
      rw [if_pos rfl]
      by_cases h2 : i < l.length
      · rw [if_pos (by omega), List.getElem?_append_left h2, show w * 64 + i - w * 64 = i by omega]
      · rw [if_neg (by omega), List.getElem?_append_right (by omega), List.getElem?_drop, show l.length + (i - l.length) = i by omega, sec_get hi]
    · rw [if_neg h, if_neg (by omega), sec_get hi]
  · have e : ∀ x : List Int, x.length ≤ 64 → x[i]? = none := fun x hx => List.getElem?_eq_none (by omega)
    have hs : ∀ d : List Int, (sec d a).length ≤ 64 := fun d => by simp [sec]; omega
    rw [e _ (hs _)]
    by_cases h : w = a
    · rw [if_pos h, e _ (by have := hs dur; simp; omega)]
    · rw [if_neg h, e _ (hs _)]
def keepN (kl : List Int) (i : Nat) : Nat := match kl[i]? with | some q => (min (max q 0) 64).toNat | none => 0
theorem sec_crN {ws : List (Int × List Int)} {kl dur : List Int} {n k a : Nat} {w : Int × List Int} (hws : ∀ w ∈ ws, 0 ≤ w.1 ∧ w.1 < n ∧ w.2.length = 64) (hd : dur.length = n * 64) (hk : ws[k]? = some w) :
    sec (crN ws kl dur (k + 1)) a = if w.1.toNat = a then w.2.take (keepN kl k) ++ (sec (crN ws kl dur k) a).drop (keepN kl k) else sec (crN ws kl dur k) a := by
  have hm := hws w (List.mem_of_getElem? hk)
  have hl := crN_len (kept := kl) hws hd k
  simp only [crN, hk, crStep, keepN]
  cases hq : kl[k]? with
  | none => simp
  | some q =>
    simp only
    have hlt : (w.2.take (min (max q 0) 64).toNat).length = (min (max q 0) 64).toNat := by simp [hm.2.2]; omega
    rw [sec_part hl (by omega) (by omega), hlt]
end Go.Proofs.Ytelkfnmdnbbniaa

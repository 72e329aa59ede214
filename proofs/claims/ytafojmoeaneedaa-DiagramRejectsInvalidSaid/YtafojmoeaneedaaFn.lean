/-
  DiagramRejectsInvalid: the copy of a diagram, changed at one place.
-/
import Derived.Test.YtafojmoeaneedaaFm
namespace Go.Proofs.Ytafojmoeaneedaa
open Go Go.Proofs.Try Tr
set_option maxRecDepth 10000

def brupd (j : Nat) (b : Br) (v : Int) : Br := match j with | 0 => ⟨v, b.l, b.h⟩ | 1 => ⟨b.v, v, b.h⟩ | _ => ⟨b.v, b.l, v⟩
def brset : List Br → Nat → Nat → Int → List Br
  | [], _, _, _ => []
  | b :: r, 0, j, v => brupd j b v :: r
  | b :: r, k + 1, j, v => b :: brset r k j v
theorem brset_length : ∀ (l : List Br) (k j : Nat) (v : Int), (brset l k j v).length = l.length
  | [], _, _, _ => rfl
  | _ :: _, 0, _, _ => rfl
  | _ :: r, k + 1, j, v => by simp only [brset, List.length_cons, brset_length r k j v]
theorem bflat_cons (b : Br) (l : List Br) : bflat (b :: l) = bcells b ++ bflat l := by simp [bflat]
theorem bflat_set : ∀ (l : List Br) (k j : Nat) (v : Int), k < l.length → j < 3 → (bflat l).set (k * 3 + j) (vi v) = bflat (brset l k j v)
  | b :: r, 0, j, v, _, hj => by
    simp only [brset, bflat_cons]
    match j, hj with
    | 0, _ => simp [bcells, brupd]
    | 1, _ => simp [bcells, brupd]
    | 2, _ => simp [bcells, brupd]
  | b :: r, k + 1, j, v, hk, hj => by
    simp only [brset, bflat_cons]
    rw [← bflat_set r k j v (by simpa using hk) hj, List.set_append_right _ _ (by simp [bcells]; omega)]
    congr 2
    simp [bcells]
    omega
section
variable {F0 F : PH} {ta : Tr} {b8 b9 : Nat}
/-- The copy. -/
structure CP (F0 F : PH) (b9 : Nat) (s : Sl) (r : Int) (bs : List Br) : Prop where
  le : F0.le F
  n9 : F0 b9 = none
  q9 : F b9 = some (.cells #[s.v, vi r] 28)
  own : OwnS F 72 3 s (bflat bs)
  new : ∀ a, s.base = some a → F0 a.block = none ∧ a.block ≠ b9
theorem CP.lo {s : Sl} {r : Int} {bs : List Br} (h : CP F0 F b9 s r bs) : Lo F b9 (bs, r) := ⟨_, h.q9, s, rfl, h.own.rd⟩
theorem rej_go {s : Sl} {r : Int} {bs : List Br} (ka : Sx 6 ta) (hl : bs.length ≤ 63) (h8 : Lo F0 b8 (dia ta)) (h : CP F0 F b9 s r bs) {R : Value → PH → Prop} (hR : ∀ F', F0.le F' → R (.bool true) F') : b14j2 true b8 (some (Addr.mk b9 0 none)) R F :=
  rej_j2 (d := (bs, r)) ka hl h.le (fun p hp => by
    simp only [List.mem_cons, List.not_mem_nil, or_false] at hp
    rcases hp with rfl | rfl
    · exact h.lo
    · exact h8.le h.le) hR
theorem CP.root {s : Sl} {r : Int} {bs : List Br} (h : CP F0 F b9 s r bs) (v : Int) : CP F0 (F.set b9 (.cells #[s.v, vi v] 28)) b9 s v bs :=
  ⟨le_set_new h.le h.n9, h.n9, set_eq _ _ _, h.own.keep fun a ha => set_ne _ _ (h.new a ha).2, h.new⟩
theorem CP.cell {s : Sl} {r : Int} {bs : List Br} (h : CP F0 F b9 s r bs) {k j : Nat} (hk : k < bs.length) (hj : j < 3) (v : Int) {K : PH → Prop} (hK : ∀ F', CP F0 F' b9 s r (brset bs k j v) → K F') :
    ∃ b cur, s.base = some ⟨b, 0, none⟩ ∧ F b = some (.cells cur 72 (0, 0)) ∧ k * 3 + j < cur.size ∧ K (F.set b (.cells (cur.setIfInBounds (k * 3 + j) (vi v)) 72)) := by
  have hlen := h.own.rd.blen
  rcases h.own with ⟨e, _⟩ | ⟨b, cur, h1, h2, h3, h4, h5, h6⟩
  · rw [e] at hlen; simp [Sl.nil] at hlen; omega
  · obtain ⟨n0, n9⟩ := h.new _ h1
    refine ⟨b, cur, h1, h2, by omega, hK _ ⟨le_set_new h.le n0, h.n9, by rw [set_ne _ _ (Ne.symm n9)]; exact h.q9, .inr ⟨b, _, h1, set_eq _ _ _, by simp [h3], h4, by rw [bflat_length, brset_length]; omega, ?_⟩, h.new⟩⟩
    rw [← bflat_set _ _ _ _ hk hj, ← h6]
    rw [Array.toList_setIfInBounds, List.take_set]

theorem rej_j5 {s : Sl} {r : Int} {bs : List Br} {at_ value : Int} (hat0 : 0 ≤ at_) (hat1 : at_ ≤ 255) (ka : Sx 6 ta) (hl : bs.length ≤ 63) (h8 : Lo F0 b8 (dia ta)) (h : CP F0 F b9 s r bs) {R : Value → PH → Prop} (hR : ∀ F', F0.le F' → R (.bool true) F')
    {x : Bool} (hx : x = false → bs.length ≠ 0) : b14j5 at_ value true b8 (some (Addr.mk b9 0 none)) x R F := by
  have hlen := h.own.rd.blen
  unfold b14j5
  refine ⟨fun _ => ?_, fun hf => ?_⟩
  · refine ⟨_, rfl, ?_⟩
    refine st1' (b := b9) (o := 1) (by simp) h.q9 (by simp) ?_
    rw [show (#[s.v, vi r].setIfInBounds 1 (vi value) : Array Value) = #[s.v, vi value] from rfl]
    exact rej_go ka hl h8 (h.root value) hR
  · have h0 := hx hf
    have hc : F.cell (Addr.mk b9 0 none) = some s.v := by rw [cell_eq h.q9]; rfl
    have hw : IntKind.i64.wrap (IntKind.u8.wrap (Int.tdiv at_ 4)) = at_ / 4 := by
      rw [Int.tdiv_eq_ediv_of_nonneg hat0, wu8_eq (by omega) (by omega), w64_eq (by omega) (by omega)]
    have hm : Int.tmod (at_ / 4) (s.len : Int) = (((at_ / 4) % (s.len : Int)).toNat : Int) := by
      rw [Int.tmod_eq_emod_of_nonneg (by omega)]
      have := Int.emod_nonneg (at_ / 4) (b := (s.len : Int)) (by omega)
      omega
    have hk : ((at_ / 4) % (s.len : Int)).toNat < bs.length := by
      have := Int.emod_lt_of_pos (at_ / 4) (b := (s.len : Int)) (by omega)
      omega
    refine ⟨_, rfl, s, hc, by omega, ?_⟩
    rw [hw, hm, Int.toNat_natCast]
    generalize ((at_ / 4) % (s.len : Int)).toNat = k at *
    have go : ∀ j, j < 3 → ∃ b cur, s.base = some ⟨b, 0, none⟩ ∧ F b = some (.cells cur 72 (0, 0)) ∧ k * 3 + j < cur.size ∧ b14j2 true b8 (some (Addr.mk b9 0 none)) R (F.set b (.cells (cur.setIfInBounds (k * 3 + j) (vi value)) 72)) := fun j hj =>
      h.cell hk hj value fun F' h' => rej_go ka (by rw [brset_length]; exact hl) h8 h' hR
    refine ⟨fun _ => ⟨s, hc, ?_⟩, fun _ => ⟨fun _ => ⟨s, hc, ?_⟩, fun _ => ⟨s, hc, ?_⟩⟩⟩
    · obtain ⟨b, cur, g1, g2, g3, g4⟩ := go 0 (by omega)
      exact ⟨_, g1, by omega, by omega, st1' (b := b) (o := k * 3) (by simp) g2 (by omega) g4⟩
    · obtain ⟨b, cur, g1, g2, g3, g4⟩ := go 1 (by omega)
      exact ⟨_, g1, by omega, by omega, st1' (b := b) (o := k * 3 + 1) (by simp) g2 (by omega) g4⟩
    · obtain ⟨b, cur, g1, g2, g3, g4⟩ := go 2 (by omega)
      exact ⟨_, g1, by omega, by omega, st1' (b := b) (o := k * 3 + 2) (by simp) g2 (by omega) g4⟩
theorem rej_j1 {s : Sl} {r : Int} {bs : List Br} {at_ value : Int} (hat0 : 0 ≤ at_) (hat1 : at_ ≤ 255) (ka : Sx 6 ta) (hl : bs.length ≤ 63) (h8 : Lo F0 b8 (dia ta)) (h : CP F0 F b9 s r bs) {R : Value → PH → Prop} (hR : ∀ F', F0.le F' → R (.bool true) F') :
    b14j1 at_ value true b8 (some (Addr.mk b9 0 none)) R F := by
  have hlen := h.own.rd.blen
  unfold b14j1
  refine ⟨_, rfl, s, by rw [cell_eq h.q9]; rfl, fun _ => ?_, fun hn => ?_⟩
  · exact rej_j5 hat0 hat1 ka hl h8 h hR fun h => by cases h
  · exact rej_j5 hat0 hat1 ka hl h8 h hR fun _ => by omega
/-- The copy of the branches. -/
theorem rej_copy {x : Sl} {bs : List Br} (hl : bs.length ≤ 63) (hg : F0.le F) {b30 : Nat} (h30 : F b30 = some (.cells #[] 72)) (n30 : F0 b30 = none) (hx : RdS F x 3 (bflat bs)) {Q : Value → PH → Prop}
    (h : ∀ s F', F0.le F' → OwnS F' 72 3 s (bflat bs) → (∀ a, s.base = some a → F0 a.block = none) → (∀ z o, z ≠ b30 → F z = some o → F' z = some o) → (∀ a, s.base = some a → a.block = b30 ∨ F a.block = none) → Q s.v F') :
    runs prog (Builtin.append_ #[26, 26] 26 #[(Sl.mk (some (Addr.mk b30 0 none)) 0 0).v, x.v]) F Q := by
  have hlen := hx.blen
  refine own_app (F0 := F0) (olds := []) underlying26 sz72 zr72 rfl (by omega) hg (.inr ⟨b30, #[], rfl, h30, rfl, Nat.le_refl _, rfl, rfl⟩) (fun a ha => by cases ha; exact n30) hx (st_bflat _) (by simp only; omega) (by simp only; omega) ?_
  intro s' F' h1 h2 h3 h4 h5 h6
  refine h s' F' h1 h2 h4 (fun z o hz hq => h5 z o hq ?_) (fun a ha => ?_)
  · rintro ⟨a, ha, e⟩
    cases ha
    exact hz e.symm
  · rcases h6 a ha with ⟨a', ha', e⟩ | h6
    · cases ha'
      exact .inl e.symm
    · exact .inr h6
theorem rej_fin {s : Sl} {r : Int} {bs : List Br} {at_ value : Int} {G : PH} (hat0 : 0 ≤ at_) (hat1 : at_ ≤ 255) (ka : Sx 6 ta) (hl : bs.length ≤ 63) (h8 : Lo F0 b8 (dia ta)) (hg : F0.le G) (hq : G b9 = some (.cells #[Value.slice none 0 0, Value.int .i64 0] 28)) (h9 : F0 b9 = none)
    (ho : OwnS G 72 3 s (bflat bs)) (hn : ∀ a, s.base = some a → F0 a.block = none) (hb : ∀ a, s.base = some a → a.block ≠ b9) {R : Value → PH → Prop} (hR : ∀ F', F0.le F' → R (.bool true) F') :
    (#[s.v, vi r] : Array Value).size = 2 ∧ (∀ v ∈ (#[s.v, vi r] : Array Value).toList, storable v) ∧ ∃ c e, G (Addr.mk b9 0 none).block = some (.cells c e (0, 0)) ∧ (Addr.mk b9 0 none).spot = none ∧ (Addr.mk b9 0 none).off + 2 ≤ c.size ∧
      atF (G.set (Addr.mk b9 0 none).block (.cells (wr c (Addr.mk b9 0 none).off (#[s.v, vi r] : Array Value).toList) e)) fun F => b14j1 at_ value true b8 (some (Addr.mk b9 0 none)) R F := by
  have hd : DV G #[s.v, vi r] (bs, r) := ⟨s, rfl, ho.rd⟩
  refine stW hq rfl rfl hd.st ?_
  refine rej_j1 (s := s) (r := r) (bs := bs) hat0 hat1 ka hl h8 ⟨le_set_new hg h9, h9, set_eq _ _ _, ho.keep fun a ha => set_ne _ _ (hb a ha), fun a ha => ⟨hn a ha, hb a ha⟩⟩ hR
theorem rejects_spec {F : PH} {s0 : Array Value} {n at_ value : Int} (hs : SetV F s0 n) (hat0 : 0 ≤ at_) (hat1 : at_ ≤ 255) : Spec prog 14 #[.agg s0, .int .u8 at_, .int .i64 value] F fun r F' => r = .bool true ∧ F.le F' := by
  refine c14 ?_
  unfold b14
  intro b3 hb3
  refine atI ?_
  have l1 := le_set_fresh (.cells s0 24) hb3
  have q1 := set_eq F b3 (.cells s0 24)
  generalize F.set b3 (.cells s0 24) = G at *
  refine (sanity_spec G).mono ?_
  rintro _ F1 ⟨rfl, la⟩
  replace q1 := la _ _ q1
  replace l1 := l1.trans la
  refine ⟨_, rfl, _, hs.size, row_whole q1, ?_⟩
  refine (made_spec (F := F1) (hs.le l1)).mono ?_
  rintro _ F2 ⟨w, t, rfl, kt, hw, lb⟩
  refine ⟨_, rfl, ?_⟩
  refine locD hw rfl (Los.nil _) fun b8 F3 lc h3 hc => ?_
  have l3 := l1.trans (lb.trans lc)
  have h8 := h3 (b8, dia t) (by simp)
  have kt6 := kt.mono (nOf_le n)
  have hl : (dia t).1.length ≤ 63 := by show (brs (subs t)).length ≤ 63; rw [brs_length]; exact kt6.len (by omega)
  obtain ⟨s, rfl, hr⟩ := hw
  replace hr := hr.le lc
  generalize (dia t).1 = bs at *
  generalize (dia t).2 = r at *
  have c1 : ∀ {F' : PH}, F3.le F' → F'.cell (Addr.mk b8 1 none) = some (vi r) := fun h => by rw [cell_eq (h _ _ hc)]; rfl
  have hR : ∀ F', F3.le F' → (Value.bool true = .bool true ∧ F.le F') := fun F' h => ⟨rfl, l3.trans h⟩
  refine ⟨s, by rw [cell_eq hc]; rfl, r, c1 PH.le_rfl, ?_, ?_⟩
  · intro b30 hb30
    refine atI ?_
    have lx := le_set_fresh (.cells #[] 72) hb30
    have q30 := set_eq F3 b30 (.cells #[] 72)
    generalize F3.set b30 (.cells #[] 72) = F4 at *
    refine ⟨?_, ?_⟩
    · refine rej_copy hl lx q30 hb30 (hr.le lx) ?_
      intro u F5 l5 ho hn _ _
      refine ⟨u, rfl, c1 l5, ?_⟩
      intro b9 hb9
      refine atI ?_
      have hb : ∀ a, u.base = some a → a.block ≠ b9 := fun a ha e => by
        obtain ⟨cur, hcur⟩ := ho.elem ha
        rw [e, hb9] at hcur
        cases hcur
      exact rej_fin (F0 := F3) hat0 hat1 kt6 hl h8 (l5.trans (le_set_fresh _ hb9)) (set_eq _ _ _) (le_none l5 hb9) (ho.keep fun a ha => set_ne _ _ (hb a ha)) hn hb hR
    · intro b9 hb9
      refine atI ?_
      have ly := le_set_fresh (.cells #[Value.slice none 0 0, Value.int .i64 0] 28) hb9
      have q9 := set_eq F4 b9 (.cells #[Value.slice none 0 0, Value.int .i64 0] 28)
      have n9 : b9 ≠ b30 := Ne.symm (ne_of_fresh hb9 q30)
      have h39 : F3 b9 = none := le_none lx hb9
      generalize F4.set b9 (.cells #[Value.slice none 0 0, Value.int .i64 0] 28) = F5 at *
      refine rej_copy hl (lx.trans ly) (ly _ _ q30) hb30 (hr.le (lx.trans ly)) ?_
      intro u F6 l6 ho hn hk hu
      refine ⟨u, rfl, c1 l6, ?_⟩
      refine rej_fin (F0 := F3) hat0 hat1 kt6 hl h8 l6 (hk _ _ n9 q9) h39 ho hn (fun a ha e => ?_) hR
      rcases hu a ha with h | h
      · exact n9 (e.symm.trans h)
      · rw [e, q9] at h; cases h
  · intro b9 hb9
    refine atI ?_
    have ly := le_set_fresh (.cells #[Value.slice none 0 0, Value.int .i64 0] 28) hb9
    have q9 := set_eq F3 b9 (.cells #[Value.slice none 0 0, Value.int .i64 0] 28)
    generalize F3.set b9 (.cells #[Value.slice none 0 0, Value.int .i64 0] 28) = F4 at *
    intro b30 hb30
    refine atI ?_
    have lx := le_set_fresh (.cells #[] 72) hb30
    have q30 := set_eq F4 b30 (.cells #[] 72)
    have n9 : b9 ≠ b30 := ne_of_fresh hb30 q9
    have h30 : F3 b30 = none := le_none ly hb30
    replace q9 := lx _ _ q9
    generalize F4.set b30 (.cells #[] 72) = F5 at *
    refine rej_copy hl (ly.trans lx) q30 h30 (hr.le (ly.trans lx)) ?_
    intro u F6 l6 ho hn hk hu
    refine ⟨u, rfl, c1 l6, ?_⟩
    refine rej_fin (F0 := F3) hat0 hat1 kt6 hl h8 l6 (hk _ _ n9 q9) hb9 ho hn (fun a ha e => ?_) hR
    rcases hu a ha with h | h
    · exact n9 (e.symm.trans h)
    · rw [e, q9] at h; cases h
end
end Go.Proofs.Ytafojmoeaneedaa

/-
  The diagrams: an operation on three diagrams; how many branches its result has.
-/
import Derived.Test.YtafojmoeaneedaaEh
namespace Go.Proofs.Ytafojmoeaneedaa
open Go Go.Proofs.Try Tr
set_option maxRecDepth 10000

/-! how many branches the result of an operation has -/
def subsL (t : Tr) : List Tr := leaf false :: leaf true :: subs t
theorem inn_subsL {t x : Tr} (h : inn (subs t) x) : x ∈ subsL t := by
  unfold subsL
  cases x with
  | leaf b => cases b <;> simp
  | node v l r => simp [inn_mem h rfl]
noncomputable def apL (o : Op3) (a b d : Tr) : List Tr := (subsL a).flatMap fun x => (subsL b).flatMap fun y => (subsL d).map fun z => ap o x y z
theorem apL_length (o : Op3) (a b d : Tr) : (apL o a b d).length = ((subs a).length + 2) * (((subs b).length + 2) * ((subs d).length + 2)) := by
  unfold apL
  simp only [List.length_flatMap, List.length_map, List.map_const', List.sum_replicate_nat]
  simp [subsL]
theorem vis_ap {o : Op3} {a b d : Tr} (ha : a.ok) (hb : b.ok) (hd : d.ok) : ∀ (n : Nat) (x y z : Tr) (S : List Tr), x.sz + y.sz + z.sz ≤ n → inn (subs a) x → inn (subs b) y → inn (subs d) z → Cl S →
    ∀ u ∈ vis (ap o x y z) S, u ∈ S ∨ u ∈ apL o a b d := by
  intro n
  induction n with
  | zero => intro x y z S hn; have := sz_pos x; omega
  | succ n ih =>
    intro x y z S hn hx hy hz hS u hu
    have kx := (subs_cl ha).inn_ok hx
    have ky := (subs_cl hb).inn_ok hy
    have kz := (subs_cl hd).inn_ok hz
    have hmem : ap o x y z ∈ apL o a b d := List.mem_flatMap.2 ⟨x, inn_subsL hx, List.mem_flatMap.2 ⟨y, inn_subsL hy, List.mem_map.2 ⟨z, inn_subsL hz, rfl⟩⟩⟩
    by_cases hv : top3 x y z < 64
    · have hst := ap_step (o := o) kx ky kz hv
      have v1 : top3 x y z ≤ x.top := by unfold top3; omega
      have v2 : top3 x y z ≤ y.top := by unfold top3; omega
      have v3 : top3 x y z ≤ z.top := by unfold top3; omega
      have hcase : top3 x y z = x.top ∨ top3 x y z = y.top ∨ top3 x y z = z.top := by unfold top3; omega
      generalize top3 x y z = v at *
      have nl : ∀ {t : Tr}, v = t.top → t.isL = false := fun {t} e => by
        cases t with
        | leaf b => simp only [top] at e; omega
        | node _ _ _ => rfl
      obtain ⟨al1, al2, al3, al4, al5⟩ := lo_facts kx v1
      obtain ⟨bl1, bl2, bl3, bl4, bl5⟩ := lo_facts ky v2
      obtain ⟨dl1, dl2, dl3, dl4, dl5⟩ := lo_facts kz v3
      obtain ⟨ah1, ah2, ah3, ah4, ah5⟩ := hi_facts kx v1
      obtain ⟨bh1, bh2, bh3, bh4, bh5⟩ := hi_facts ky v2
      obtain ⟨dh1, dh2, dh3, dh4, dh5⟩ := hi_facts kz v3
      have hsl : (lo v x).sz + (lo v y).sz + (lo v z).sz ≤ n := by
        rcases hcase with e | e | e
        · have := al4 e.symm (nl e); omega
        · have := bl4 e.symm (nl e); omega
        · have := dl4 e.symm (nl e); omega
      have hsh : (hi v x).sz + (hi v y).sz + (hi v z).sz ≤ n := by
        rcases hcase with e | e | e
        · have := ah4 e.symm (nl e); omega
        · have := bh4 e.symm (nl e); omega
        · have := dh4 e.symm (nl e); omega
      obtain ⟨l1, l2, l3⟩ := ap_facts (o := o) al1 bl1 dl1
      obtain ⟨g1, g2, g3⟩ := ap_facts (o := o) ah1 bh1 dh1
      have l2' : v < (ap o (lo v x) (lo v y) (lo v z)).top := by have := al2 hv; have := bl2 hv; have := dl2 hv; unfold top3 at l2; omega
      have g2' : v < (ap o (hi v x) (hi v y) (hi v z)).top := by have := ah2 hv; have := bh2 hv; have := dh2 hv; unfold top3 at g2; omega
      have hadd := addT_vis hS (v := v) ⟨hv, l2', g2', l1, g1⟩
      rw [← hst] at hadd
      rw [← hadd] at hu
      have c1 := (vis_facts _ S l1 hS).1
      have key : u ∈ vis (ap o (hi v x) (hi v y) (hi v z)) (vis (ap o (lo v x) (lo v y) (lo v z)) S) → u ∈ S ∨ u ∈ apL o a b d := fun hu => by
        rcases ih _ _ _ _ hsh ((subs_cl ha).inn_hi hx v) ((subs_cl hb).inn_hi hy v) ((subs_cl hd).inn_hi hz v) c1 u hu with h | h
        · exact ih _ _ _ _ hsl ((subs_cl ha).inn_lo hx v) ((subs_cl hb).inn_lo hy v) ((subs_cl hd).inn_lo hz v) hS u h
        · exact .inr h
      unfold addT at hu
      split at hu
      · exact key hu
      · rcases List.mem_append.1 hu with hu | hu
        · exact key hu
        · rw [List.mem_singleton.1 hu]
          exact .inr hmem
    · have isl : ∀ {t : Tr}, t.ok → 64 ≤ t.top → ∃ b, t = leaf b := fun {t} ht h64 => leaf_of_top ht h64
      unfold top3 at hv
      obtain ⟨p, rfl⟩ := isl kx (by omega)
      obtain ⟨q, rfl⟩ := isl ky (by omega)
      obtain ⟨r, rfl⟩ := isl kz (by omega)
      rw [ap_leaf] at hu
      exact .inl hu
theorem ap_length {o : Op3} {a b d : Tr} (ha : a.ok) (hb : b.ok) (hd : d.ok) : (subs (ap o a b d)).length ≤ ((subs a).length + 2) * (((subs b).length + 2) * ((subs d).length + 2)) := by
  rw [← apL_length o a b d]
  refine nodup_length _ _ (subs_cl (ap_ok ha hb hd)).nodup fun x hx => ?_
  rcases vis_ap ha hb hd _ a b d [] (Nat.le_refl _) (subs_inn ha) (subs_inn hb) (subs_inn hd) .nil x hx with h | h
  · cases h
  · exact h

/-! combine -/
def pick3 {α : Type} (a b c : α) : Nat → α
  | 0 => a
  | 1 => b
  | _ => c

/-- A result is stored and returned. -/
theorem ret2 {F : PH} {b e1 : Nat} {c4 : Array Value} {K : Array Value → PH → Prop} {G : PH} {d : Dia} {cs : Array Value} (hd : DV G cs d) (h4 : F b = some (.cells c4 e1 (0, 0))) (hc4 : c4.size = 2) (hk : K cs (F.set b (.cells cs e1))) :
    cs.size = 2 ∧ (∀ v ∈ cs.toList, storable v) ∧ ∃ c e, F (Addr.mk b 0 none).block = some (.cells c e (0, 0)) ∧ (Addr.mk b 0 none).spot = none ∧ (Addr.mk b 0 none).off + 2 ≤ c.size ∧
      atF (F.set (Addr.mk b 0 none).block (.cells (wr c (Addr.mk b 0 none).off cs.toList) e)) fun F => ∃ vres : Array Value, vres.size = 2 ∧ F.row (Addr.mk b 0 none) vres ∧ K vres F :=
  stW h4 hd.size hc4 hd.st ⟨cs, hd.size, row_whole (set_eq _ _ _), hk⟩

theorem OpV.cells {F : PH} {v : Value} {o : Op3} (h : OpV F v o) : v.cells = #[v] := by
  obtain ⟨k, f, c, rfl, _⟩ := h
  rfl

/-- F without a block. -/
def del1 (F : PH) (a : Nat) : PH := fun x => if x = a then none else F x
theorem del1_le (F : PH) (a : Nat) : (del1 F a).le F := fun x o h => by
  unfold del1 at h
  split at h
  · cases h
  · exact h
theorem del1_of {F : PH} {a x : Nat} (h : x ≠ a) : del1 F a x = F x := by simp [del1, h]
theorem del1_1 (F : PH) (a : Nat) : del1 F a a = none := by simp [del1]
theorem le_del1 {F G : PH} {a : Nat} (h : F.le G) (ha : F a = none) : F.le (del1 G a) := fun x o hx => by
  have h1 : x ≠ a := fun e => by rw [e, ha] at hx; cases hx
  rw [del1_of h1]
  exact h _ _ hx
/-- A call that does not know a block. -/
theorem Spec.avoid {P : Program} {f : FuncId} {args : Array Value} {F : PH} {x : Nat} {o : Obj} {R : Value → PH → Prop} (h : Spec P f args (del1 F x) R) (hx : F x = some o) :
    Spec P f args F fun v F' => ∃ G, R v G ∧ G.le F' ∧ F' x = some o ∧ G x = none :=
  (h.upon (del1_le F x)).mono fun v F' ⟨G, hr, hl, hb⟩ => by
    obtain ⟨h1, h2⟩ := hb x o (del1_1 F x) hx
    exact ⟨G, hr, hl, h1, h2⟩
theorem le_avoid {F G F' : PH} {x : Nat} {o : Obj} (h : (del1 F x).le G) (hl : G.le F') (hx : F' x = some o) (hF : F x = some o) : F.le F' := fun b ob hb => by
  by_cases hbx : b = x
  · subst hbx
    rw [hF] at hb
    rw [hx]
    exact hb
  · exact hl _ _ (h _ _ (by rw [del1_of hbx]; exact hb))

section
variable {F : PH} {s0 s1 s2 : Sl} {t0 t1 t2 : Tr} {opv : Value} {o : Op3}
theorem combine_spec (h0 : RdS F s0 3 (bflat (dia t0).1)) (h1 : RdS F s1 3 (bflat (dia t1).1)) (h2 : RdS F s2 3 (bflat (dia t2).1)) (k0 : t0.ok) (k1 : t1.ok) (k2 : t2.ok)
    (f0 : Fit ((subs t0).length + 2)) (f1 : Fit ((subs t1).length + 2)) (f2 : Fit ((subs t2).length + 2)) (hf : Fit ((subs (ap o t0 t1 t2)).length + 4)) (hop : OpV F opv o) :
    Spec prog 70 #[.agg #[s0.v, vi (dia t0).2, s1.v, vi (dia t1).2, s2.v, vi (dia t2).2], opv] F fun r F' => ∃ w, r = .agg w ∧ DV F' w (dia (ap o t0 t1 t2)) ∧ F.le F' := by
  refine c70 ?_
  unfold b70
  intro b2 hb2
  refine atI ?_
  have l2 := le_set_fresh (.cells #[s0.v, vi (dia t0).2, s1.v, vi (dia t1).2, s2.v, vi (dia t2).2] 89) hb2
  have q2 := set_eq F b2 (.cells #[s0.v, vi (dia t0).2, s1.v, vi (dia t1).2, s2.v, vi (dia t2).2] 89)
  generalize F.set b2 (.cells #[s0.v, vi (dia t0).2, s1.v, vi (dia t1).2, s2.v, vi (dia t2).2] 89) = F2 at *
  refine ⟨hop.cells, fun b3 hb3 => ?_⟩
  refine atI ?_
  have lx := le_set_fresh (.cells #[opv] 90) hb3
  have q3 := set_eq F2 b3 (.cells #[opv] 90)
  replace q2 := lx _ _ q2
  have l3 := l2.trans lx
  clear lx
  generalize F2.set b3 (.cells #[opv] 90) = F3 at *
  intro b4 hb4
  refine atI ?_
  have f4 : F b4 = none := le_none l3 hb4
  have lx := le_set_fresh (.cells #[Value.slice none 0 0, Value.int .i64 0] 28) hb4
  have q4 := set_eq F3 b4 (.cells #[Value.slice none 0 0, Value.int .i64 0] 28)
  replace q2 := lx _ _ q2
  replace q3 := lx _ _ q3
  have l4 := l3.trans lx
  clear lx
  generalize F3.set b4 (.cells #[Value.slice none 0 0, Value.int .i64 0] 28) = F4 at *
  refine (newBuilder_spec F4).mono ?_
  rintro _ G ⟨bb, mm, rfl, hne, bd⟩
  refine ⟨_, rfl, ?_⟩
  intro b5 hb5
  refine atI ?_
  refine st1 (set_eq _ _ _) (by simp) ?_
  rw [set_twice, show (#[Value.pointer none].setIfInBounds (Addr.mk b5 0 none).off (Value.pointer (some ⟨bb, 0, none⟩)) : Array Value) = #[Value.pointer (some ⟨bb, 0, none⟩)] from rfl]
  have g5 : F4 b5 = none := le_none bd.le hb5
  have bd5 := bd.grow (F := G.set b5 (.cells #[Value.pointer (some ⟨bb, 0, none⟩)] 81)) (le_set_fresh _ hb5) hb5 (set_eq _ _ _)
  have e5 := set_eq F4 b5 (.cells #[Value.pointer (some ⟨bb, 0, none⟩)] 81)
  have l5 := le_set_fresh (.cells #[Value.pointer (some ⟨bb, 0, none⟩)] 81) g5
  generalize F4.set b5 (.cells #[Value.pointer (some ⟨bb, 0, none⟩)] 81) = E5 at *
  generalize G.set b5 (.cells #[Value.pointer (some ⟨bb, 0, none⟩)] 81) = G5 at *
  intro b9 hb9
  refine atI ?_
  have bd9 := bd5.upto (le_set_fresh (.map #[] 0) hb9)
  have g9 : E5 b9 = none := le_none bd5.le hb9
  have hmo := MapO.empty enc3
  have e9 := set_eq G5 b9 (.map #[] 0)
  have hnm : mm ≠ b9 := by
    obtain ⟨om, hom, _⟩ := bd5.map
    exact ne_of_fresh hb9 hom
  generalize G5.set b9 (.map #[] 0) = G9 at *
  intro b6 hb6
  refine atI ?_
  refine st1 (set_eq _ _ _) (by simp) ?_
  rw [set_twice, show (#[Value.map none].setIfInBounds (Addr.mk b6 0 none).off (Value.map (some b9)) : Array Value) = #[Value.map (some b9)] from rfl]
  intro b7 hb7
  refine atI ?_
  refine st1 (set_eq _ _ _) (by simp) ?_
  rw [set_twice]
  let p : AP := ⟨b3, b6, b2, b7, b5, bb, mm, b9, opv, o, pick3 (dia t0) (dia t1) (dia t2), pick3 (subs t0) (subs t1) (subs t2)⟩
  have hs0 : AS E5 G9 p [] := ⟨bd9, g9, hnm, _, _, e9, hmo, fun k v hkv => by cases hkv⟩
  have hs1 := hs0.grow (F := G9.set b6 (.cells #[Value.map (some b9)] 112)) (le_set_fresh _ hb6) hb6 (set_eq _ _ _)
  have hs2 := hs1.grow (F := (G9.set b6 (.cells #[Value.map (some b9)] 112)).set b7 (.cells #[.func (.func 97) #[] p.caps] 113)) (le_set_fresh _ hb7) hb7 (set_eq _ _ _)
  have g6 : E5 b6 = none := le_none bd9.le hb6
  have g7 : (E5.set b6 (.cells #[Value.map (some b9)] 112)) b7 = none := le_none hs1.bd.le hb7
  have l6 := le_set_fresh (.cells #[Value.map (some b9)] 112) g6
  have l7 := le_set_fresh (.cells #[.func (.func 97) #[] p.caps] 113) g7
  have e6 := l7 _ _ (set_eq E5 b6 (.cells #[Value.map (some b9)] 112))
  have e7 := set_eq (E5.set b6 (.cells #[Value.map (some b9)] 112)) b7 (.cells #[.func (.func 97) #[] p.caps] 113)
  have lE : F4.le ((E5.set b6 (.cells #[Value.map (some b9)] 112)).set b7 (.cells #[.func (.func 97) #[] p.caps] 113)) := l5.trans (l6.trans l7)
  replace e5 := (l6.trans l7) _ _ e5
  rw [show (#[Value.nilFunc].setIfInBounds 0 (Value.func (.func 97) #[] #[.pointer (some ⟨b3, 0, none⟩), .pointer (some ⟨b6, 0, none⟩), .pointer (some ⟨b2, 0, none⟩), .pointer (some ⟨b7, 0, none⟩), .pointer (some ⟨b5, 0, none⟩)]) : Array Value) = #[.func (.func 97) #[] p.caps] from rfl]
  generalize (E5.set b6 (.cells #[Value.map (some b9)] 112)).set b7 (.cells #[.func (.func 97) #[] p.caps] 113) = E7 at *
  generalize (G9.set b6 (.cells #[Value.map (some b9)] 112)).set b7 (.cells #[.func (.func 97) #[] p.caps] 113) = G7 at *
  have lF := l4.trans lE
  have he : AE E7 p := by
    refine ⟨?_, ?_, fun i hi => ?_, ?_, ?_, hop.le lF⟩
    · show E7.cell ⟨b3, 0, none⟩ = some opv
      rw [cell_eq (lE _ _ q3)]; rfl
    · show E7.cell ⟨b6, 0, none⟩ = some _
      rw [cell_eq e6]; rfl
    · have row : ∀ (j : Nat) (s : Sl) (r : Int), (#[s0.v, vi (dia t0).2, s1.v, vi (dia t1).2, s2.v, vi (dia t2).2] : Array Value)[j]? = some s.v → (#[s0.v, vi (dia t0).2, s1.v, vi (dia t1).2, s2.v, vi (dia t2).2] : Array Value)[j + 1]? = some (vi r) →
          E7.row ⟨b2, j, none⟩ #[s.v, vi r] := fun j s r h1 h2 i hi => by
        simp only [add_mk]
        rw [cell_eq (lE _ _ q2)]
        match i, hi with
        | 0, _ => simpa using h1
        | 1, _ => simpa using h2
      match i, hi with
      | 0, _ => exact ⟨_, row 0 s0 _ rfl rfl, s0, rfl, h0.le lF⟩
      | 1, _ => exact ⟨_, row 2 s1 _ rfl rfl, s1, rfl, h1.le lF⟩
      | 2, _ => exact ⟨_, row 4 s2 _ rfl rfl, s2, rfl, h2.le lF⟩
    · show E7.cell ⟨b7, 0, none⟩ = some _
      rw [cell_eq e7]; rfl
    · show E7.cell ⟨b5, 0, none⟩ = some _
      rw [cell_eq e5]; rfl
  have hfa : AF p := by
    refine ⟨fun i hi => ?_, fun i hi => ?_, fun i hi => ?_⟩
    · match i, hi with
      | 0, _ => exact subs_cl k0
      | 1, _ => exact subs_cl k1
      | 2, _ => exact subs_cl k2
    · match i, hi with
      | 0, _ => exact List.prefix_refl _
      | 1, _ => exact List.prefix_refl _
      | 2, _ => exact List.prefix_refl _
    · match i, hi with
      | 0, _ => show Fit ((brs (subs t0)).length + 2); rw [brs_length]; exact f0
      | 1, _ => show Fit ((brs (subs t1)).length + 2); rw [brs_length]; exact f1
      | 2, _ => show Fit ((brs (subs t2)).length + 2); rw [brs_length]; exact f2
  have q2' := hs2.bd.le _ _ (lE _ _ q2)
  refine ⟨_, le_cell hs2.bd.le he.c5, _, le_cell hs2.bd.le he.c7, by omega, by omega, (dia t0).2, by simp only [add_mk]; rw [cell_eq q2']; rfl, by omega, by omega, (dia t1).2, by simp only [add_mk]; rw [cell_eq q2']; rfl,
    by omega, by omega, (dia t2).2, by simp only [add_mk]; rw [cell_eq q2']; rfl, _, _, _, rfl, cb97, ?_⟩
  have hres : p.res (pick3 t0 t1 t2) = ap o t0 t1 t2 := rfl
  have hat := at_spec hfa _ (pick3 t0 t1 t2) (Nat.le_refl _) ⟨subs_inn k0, subs_inn k1, subs_inn k2⟩ E7 G7 [] he hs2 (by rw [hres]; exact hf)
  rw [hres] at hat
  refine hat.mono ?_
  rintro _ F5 ⟨rfl, hs3⟩
  have q2'' := hs3.bd.le _ _ (lE _ _ q2)
  refine ⟨_, rfl, by simp only [add_mk]; rw [cell_eq q2'']; rfl, by simp only [add_mk]; rw [cell_eq q2'']; rfl, by simp only [add_mk]; rw [cell_eq q2'']; rfl, le_cell hs3.bd.le he.c5, ?_⟩
  have hkT := ap_ok (o := o) k0 k1 k2
  obtain ⟨_, hcl, _, _, ⟨sb, hbb, hob, _⟩, _⟩ := hs3.bd
  have hle3 := hs3.bd.le
  clear hs3
  have ev : vis (ap o t0 t1 t2) [] = subs (ap o t0 t1 t2) := rfl
  rw [ev] at *
  have h45 := hle3 _ _ (lE _ _ q4)
  replace hbb : F5 bb = some (.cells #[sb.v, Value.map (some mm)] 84) := hbb
  have nbb : bb ≠ b4 := fun e => by rw [e, h45] at hbb; simp at hbb
  have hob' : OwnS (del1 F5 b4) 72 3 sb (bflat (brs (subs (ap o t0 t1 t2)))) := hob.keep fun a ha => by
    obtain ⟨cur, hcur⟩ := hob.elem ha
    refine del1_of (fun e => ?_)
    rw [e, h45] at hcur
    cases hcur
  refine (Spec.avoid (diagram_spec (b := bb) (F := del1 F5 b4) (ns := sb) (by rw [cell_eq ((del1_of nbb).trans hbb)]; rfl) hob'.rd hcl (subs_inn hkT) hf) h45).mono ?_
  rintro _ F6 ⟨G6, ⟨w, rfl, hw, l6'⟩, lg, h46, hg4⟩
  have l56 := le_avoid l6' lg h46 h45
  have q2f := l56 _ _ q2''
  refine ⟨_, rfl, by simp only [add_mk]; rw [cell_eq q2f]; rfl, by simp only [add_mk]; rw [cell_eq q2f]; rfl, by simp only [add_mk]; rw [cell_eq q2f]; rfl, ?_⟩
  exact ret2 (K := fun vres F' => ∃ w, Value.agg vres = .agg w ∧ DV F' w (dia (ap o t0 t1 t2)) ∧ F.le F') hw h46 rfl ⟨w, rfl, hw.le (le_set_new lg hg4), le_set_new (lF.trans (hle3.trans l56)) f4⟩
end
end Go.Proofs.Ytafojmoeaneedaa

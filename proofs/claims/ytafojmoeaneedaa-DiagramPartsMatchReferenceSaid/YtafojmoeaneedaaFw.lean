/-
  The reference: Restrict, Exists, In, Holds, Support; equal rows.
-/
import Derived.Test.YtafojmoeaneedaaEy
import Derived.Test.YtafojmoeaneedaaFr
import Derived.Test.YtafojmoeaneedaaGr
import Derived.Test.YtafojmoeaneedaaFa
import Derived.Test.YtafojmoeaneedaaFp
import Derived.Test.YtafojmoeaneedaaEm
import Derived.Test.YtafojmoeaneedaaGh
namespace Go.Proofs.Ytafojmoeaneedaa
open Go Go.Proofs.Try Tr
set_option maxRecDepth 10000

/-- What a slice owns, put beside what is known. -/
theorem own_beside {E F : PH} {e size : Nat} {s : Sl} {vs : List Value} (hE : E.le F) (ho : OwnS F e size s vs) (hn : ∀ a, s.base = some a → E a.block = none) :
    ∃ E', E.le E' ∧ E'.le F ∧ (∀ G, E'.le G → OwnS G e size s vs) ∧ (∀ x, E' x = none ↔ E x = none ∧ ∀ a, s.base = some a → a.block ≠ x) := by
  rcases ho with ⟨rfl, rfl⟩ | ⟨b, cur, h1, h2, h3⟩
  · exact ⟨E, PH.le_rfl, hE, fun G _ => .inl ⟨rfl, rfl⟩, fun x => ⟨fun h => ⟨h, fun a ha => by cases ha⟩, fun h => h.1⟩⟩
  · have hb := hn _ h1
    refine ⟨E.set b (.cells cur e), le_set_fresh _ hb, fun x o hx => ?_, fun G hG => .inr ⟨b, cur, h1, hG _ _ (set_eq _ _ _), h3⟩, fun x => ?_⟩
    · by_cases hxb : x = b
      · subst hxb; rw [set_eq] at hx; rw [h2]; exact hx
      · rw [set_ne _ _ hxb] at hx; exact hE _ _ hx
    · constructor
      · intro hx
        by_cases hxb : x = b
        · subst hxb; rw [set_eq] at hx; cases hx
        · rw [set_ne _ _ hxb] at hx
          exact ⟨hx, fun a ha => by rw [h1] at ha; cases ha; exact Ne.symm hxb⟩
      · rintro ⟨hx, hne⟩
        rw [set_ne _ _ (Ne.symm (hne _ h1))]
        exact hx
/-- The numbers so far. -/
noncomputable def nmL (w : Nat) (x : Bool) (T S : List Tr) (k : Nat) : List Value := (List.range (k + 2)).map fun j => vi (num S (fx w x (tr T j)))
structure FS (E F : PH) (w : Nat) (x : Bool) (T : List Tr) (N M : Sl) (S : List Tr) (k : Nat) : Prop where
  le : E.le F
  num : OwnS F 3 1 N (nmL w x T S k)
  nod : OwnS F 72 3 M (bflat (brs S))
  nN : ∀ a, N.base = some a → E a.block = none
  nM : ∀ a, M.base = some a → E a.block = none
  df : ∀ a b, N.base = some a → M.base = some b → a.block ≠ b.block
  cl : Cl S
  len : S.length ≤ k
  inn : ∀ j, j < k + 2 → inn S (fx w x (tr T j))
theorem FS.fresh {E F : PH} {w : Nat} {x : Bool} {T : List Tr} {N M : Sl} {S : List Tr} {k : Nat} (h : FS E F w x T N M S k) {b : Nat} (o : Obj) (hb : F b = none) : FS E (F.set b o) w x T N M S k :=
  ⟨h.le.trans (le_set_fresh _ hb), h.num.upto (le_set_fresh _ hb), h.nod.upto (le_set_fresh _ hb), h.nN, h.nM, h.df, h.cl, h.len, h.inn⟩
theorem FS.get {E F : PH} {w : Nat} {x : Bool} {T : List Tr} {N M : Sl} {S : List Tr} {k : Nat} (h : FS E F w x T N M S k) {j : Nat} (hj : j < k + 2) :
    N.len = k + 2 ∧ ∃ a, N.base = some a ∧ F.cell (Addr.add a (Int.toNat (j : Int) * 1)) = some (vi (Go.Proofs.Ytafojmoeaneedaa.num S (fx w x (tr T j)))) := by
  have hr := h.num.rd
  have hl := hr.len
  simp [nmL] at hl
  refine ⟨by omega, ?_⟩
  obtain ⟨b, o, h1, h2⟩ := hr.cells (by omega)
  refine ⟨_, h1, ?_⟩
  have := h2 j (by simp [nmL]; exact hj)
  simpa [nmL] using this

section
variable {F : PH} {v : Array Value} {t : Tr}
theorem fixed_step {E F : PH} {w : Nat} {x : Bool} {T : List Tr} {N M : Sl} {S : List Tr} {k b10 : Nat} (hs : FS E F w x T N M S k) (hk : k < 5000) {vv : Nat} {lo' hi' A B : Tr} {bl : Array Value} (q10 : F b10 = some (.cells (#[vi vv, bl[1]!, bl[2]!] : Array Value) 72))
    (hk2 : tr T (k + 2) = node vv lo' hi') (h0 : vv < 64) (hA : inn S A) (hB : inn S B) (tA : vv < A.top) (tB : vv < B.top) (hAB : fx w x (node vv lo' hi') = mk vv A B) {R : Value → PH → Prop} {NN : Sl → Sl → Int → PH → Prop} {b3 b6 : Nat}
    (hN : ∀ N' M' F', (∃ S', FS E F' w x T N' M' S' (k + 1)) → NN N' M' ((k + 1 : Nat) : Int) F') : b87j3 NN w x b3 b6 N M k b10 (num S A) (num S B) R F := by
  unfold b87j3
  refine ⟨(vv : Int), by rw [cell_eq q10]; rfl, ?_⟩
  obtain ⟨E1, e1, f1, k1, c1⟩ := own_beside hs.le hs.num hs.nN
  have hnum : ∀ {u : Tr}, inn S u → inn (addT S (mk vv A B)) u ∧ num (addT S (mk vv A B)) u = num S u := fun {u} hu => by
    unfold addT
    split
    · exact ⟨hu, rfl⟩
    · exact ⟨inn_append hu, num_append hu⟩
  have hinT : inn (addT S (mk vv A B)) (mk vv A B) := by
    unfold addT
    split
    · assumption
    · exact .inr (by simp)
  have hclT : Cl (addT S (mk vv A B)) := by
    unfold addT
    split
    · exact hs.cl
    · rename_i hni
      by_cases hab : A = B
      · subst hab
        exact absurd (by simp [mk]; exact hA) hni
      · have e : mk vv A B = node vv A B := by simp [mk, hab]
        rw [e] at hni ⊢
        exact .snoc hs.cl hA hB ⟨h0, tA, tB, hab, hs.cl.inn_ok hA, hs.cl.inn_ok hB⟩ fun hm => hni (.inr hm)
  have hlenT : (addT S (mk vv A B)).length ≤ k + 1 := by
    have := hs.len
    unfold addT
    split
    · omega
    · simp only [List.length_append, List.length_singleton]; omega
  refine (unique_spec (F0 := E1) f1 hs.nod (fun a ha => (c1 _).2 ⟨hs.nM a ha, fun b hb e => hs.df b a hb ha e⟩) hs.cl (v := vv) hA hB (by have := hs.len; omega)).mono ?_
  rintro _ F3 ⟨M', rfl, l3, ho3, hn3, _⟩
  refine ⟨M', _, rfl, ?_⟩
  intro b65 hb65
  refine atI ?_
  have l65 := le_set_fresh (.cells #[vi (num (addT S (mk vv A B)) (mk vv A B))] 3) hb65
  have q65 := set_eq F3 b65 (.cells #[vi (num (addT S (mk vv A B)) (mk vv A B))] 3)
  have ho4 := ho3.upto l65
  have l4 := l3.trans l65
  generalize F3.set b65 (.cells #[vi (num (addT S (mk vv A B)) (mk vv A B))] 3) = F4 at *
  have hn3' : ∀ a, M'.base = some a → E a.block = none ∧ ∀ b, N.base = some b → b.block ≠ a.block := fun a ha => (c1 _).1 (hn3 a ha)
  obtain ⟨E2, e2, f2, k2, c2⟩ := own_beside (e1.trans l4) ho4 fun a ha => (hn3' a ha).1
  have hNl := (hs.get (j := 0) (by omega)).1
  refine own_app (F0 := E2) (bytes := 8) (z := vi 0) (olds := nmL w x T S k) (news := [vi (num (addT S (mk vv A B)) (mk vv A B))]) underlying68 sz3 zr3 rfl (by omega) f2 (k1 _ l4)
    (fun a ha => (c2 _).2 ⟨hs.nN a ha, fun b hb e => (hn3' b hb).2 a ha e.symm⟩) (RdS.new q65 rfl rfl (Nat.le_refl _)) (by simp [storable]) (by simp only; omega) (by simp only; omega) ?_
  intro N' F5 h1 h2 _ h4 _ _
  refine ⟨N', rfl, ?_⟩
  rw [w64s (by omega)]
  refine hN N' M' F5 ⟨_, e2.trans h1, ?_, k2 _ h1, fun a ha => ((c2 _).1 (h4 a ha)).1, fun a ha => (hn3' a ha).1, fun a b ha hb e => ((c2 _).1 (h4 a ha)).2 b hb e.symm, hclT, hlenT, fun j hj => ?_⟩
  · have e : nmL w x T (addT S (mk vv A B)) (k + 1) = nmL w x T S k ++ [vi (num (addT S (mk vv A B)) (mk vv A B))] := by
      unfold nmL
      rw [List.range_succ, List.map_append]
      congr 1
      · refine List.map_congr_left fun j hj => ?_
        rw [(hnum (hs.inn j (by simpa using hj))).2]
      · simp only [List.map_cons, List.map_nil]
        rw [hk2, hAB]
    rw [e]
    exact h2
  · by_cases hj2 : j < k + 2
    · exact (hnum (hs.inn j hj2)).1
    · obtain rfl : j = k + 2 := by omega
      rw [hk2, hAB]
      exact hinT
theorem fixed_ref (hd : DV F v (dia t)) (ht : t.ok) (hf : (subs t).length ≤ 4096) (w : Nat) (x : Bool) :
    Spec prog 87 #[.agg v, vi w, .bool x] F fun r F' => ∃ u, r = .agg u ∧ DV F' u (dia (fx w x t)) ∧ F.le F' := by
  have hT := subs_cl ht
  obtain ⟨s, rfl, hr⟩ := hd
  have hr' : RdS F s 3 (bflat (brs (subs t))) := hr
  have hlen := hr'.blen
  rw [brs_length] at hlen
  refine c87 ?_
  unfold b87
  intro b3 hb3
  refine atI ?_
  have l3 := le_set_fresh (.cells #[s.v, vi (dia t).2] 28) hb3
  have q3 := set_eq F b3 (.cells #[s.v, vi (dia t).2] 28)
  generalize F.set b3 (.cells #[s.v, vi (dia t).2] 28) = F3 at *
  intro b6 hb6
  refine atI ?_
  have f6 : F b6 = none := le_none l3 hb6
  have lx := le_set_fresh (.cells #[Value.slice none 0 0, Value.int .i64 0] 28) hb6
  have q6 := set_eq F3 b6 (.cells #[Value.slice none 0 0, Value.int .i64 0] 28)
  replace q3 := lx _ _ q3
  have l6 := l3.trans lx
  clear lx
  generalize F3.set b6 (.cells #[Value.slice none 0 0, Value.int .i64 0] 28) = E at *
  intro b15 hb15
  refine atI ?_
  have l15 := le_set_fresh (.cells #[vi 0, vi 1] 3) hb15
  have q15 := set_eq E b15 (.cells #[vi 0, vi 1] 3)
  generalize E.set b15 (.cells #[vi 0, vi 1] 3) = F15 at *
  intro b16 hb16
  refine atI ?_
  have l16 := le_set_fresh (.cells #[] 72) hb16
  have q16 := set_eq F15 b16 (.cells #[] 72)
  have n16 : b15 ≠ b16 := ne_of_fresh hb16 q15
  replace q15 := l16 _ _ q15
  have hE16 : E b16 = none := le_none l15 hb16
  have lE := l15.trans l16
  generalize F15.set b16 (.cells #[] 72) = F16 at *
  have hs0 : FS E F16 w x (subs t) ⟨some ⟨b15, 0, none⟩, 2, 2⟩ ⟨some ⟨b16, 0, none⟩, 0, 0⟩ [] 0 := by
    have e0 : nmL w x (subs t) [] 0 = [vi 0, vi 1] := by
      have h0 : tr (subs t) 0 = leaf false := rfl
      have h1 : tr (subs t) 1 = leaf true := rfl
      simp [nmL, List.range_succ, h0, h1, fx_leaf, num]
    refine ⟨lE, by rw [e0]; exact .inr ⟨b15, _, rfl, q15, rfl, Nat.le_refl _, rfl, rfl⟩, .inr ⟨b16, _, rfl, q16, rfl, Nat.le_refl _, rfl, rfl⟩, fun a ha => (by cases ha; exact hb15), fun a ha => (by cases ha; exact hE16),
      fun a b ha hb => (by cases ha; cases hb; exact n16), .nil, Nat.le_refl _, fun j hj => ?_⟩
    match j, hj with
    | 0, _ => show inn [] (fx w x (leaf false)); rw [fx_leaf]; exact inn_leaf _ _
    | 1, _ => show inn [] (fx w x (leaf true)); rw [fx_leaf]; exact inn_leaf _ _
  refine ⟨fun m N M i F' => ∃ (k : Nat) (S : List Tr), i = k ∧ k ≤ (subs t).length ∧ m = (subs t).length - k ∧ FS E F' w x (subs t) N M S k, (subs t).length, ⟨0, [], rfl, by omega, rfl, hs0⟩, ?_⟩
  rintro m N M i F1 ⟨k, S, rfl, hk, rfl, hs⟩
  unfold b87L1
  have c3 : ∀ {G : PH}, E.le G → G.cell (Addr.mk b3 0 none) = some s.v := fun h => by rw [cell_eq (h _ _ q3)]; rfl
  refine ⟨s, c3 hs.le, fun hlt => ?_, fun hge => ?_⟩
  · have hkT : k < (subs t).length := by omega
    obtain ⟨hck, vv, lo', hi', hget, hlo, hhi, hok, _⟩ := cl_get hT k hkT
    have hlo2 := num_le hlo
    have hhi2 := num_le hhi
    rw [← num_take hlo, List.length_take] at hlo2
    rw [← num_take hhi, List.length_take] at hhi2
    have inl : inn (subs t) lo' := by rw [← List.take_append_drop k (subs t)]; exact inn_append hlo
    have inh : inn (subs t) hi' := by rw [← List.take_append_drop k (subs t)]; exact inn_append hhi
    obtain ⟨a, ha, hrow, _⟩ := rdb (hr'.le (l6.trans hs.le)) (brs_get hget)
    refine ⟨s, c3 hs.le, a, ha, by omega, hlt, barr (br (subs t) (node vv lo' hi')), rfl, by simpa using hrow, ?_⟩
    intro b10 hb10
    refine atI ?_
    refine stW (set_eq _ _ _) rfl rfl (st_barr _) ?_
    rw [set_twice]
    have hs2 := hs.fresh (.cells (barr (br (subs t) (node vv lo' hi'))) 72) hb10
    have q10 := set_eq F1 b10 (.cells (barr (br (subs t) (node vv lo' hi'))) 72)
    generalize F1.set b10 (.cells (barr (br (subs t) (node vv lo' hi'))) 72) = F2 at *
    have trl := tr_num hT inl
    have trh := tr_num hT inh
    obtain ⟨hNl, al, hal, hcl⟩ := hs2.get (j := num (subs t) lo') (by omega)
    obtain ⟨_, ah, hah, hch⟩ := hs2.get (j := num (subs t) hi') (by omega)
    rw [trl] at hcl
    rw [trh] at hch
    have il : inn S (fx w x lo') := by have := hs2.inn (num (subs t) lo') (by omega); rwa [trl] at this
    have ih : inn S (fx w x hi') := by have := hs2.inn (num (subs t) hi') (by omega); rwa [trh] at this
    have hk2 : tr (subs t) (k + 2) = node vv lo' hi' := by
      unfold tr
      rw [if_neg (by omega), if_neg (by omega), Nat.add_sub_cancel, List.getD_eq_getElem?_getD, hget]
      rfl
    obtain ⟨o1, o2, o3, o4, o5, o6⟩ := hok
    obtain ⟨p1, p2, _⟩ := fx_facts w x o5
    obtain ⟨r1, r2, _⟩ := fx_facts w x o6
    have hfx := fx_node (w := w) (b := x) (v := vv) (l := lo') (h := hi') ⟨o1, o2, o3, o4, o5, o6⟩
    have c0 : F2.cell (Addr.mk b10 0 none) = some (vi vv) := by rw [cell_eq q10]; rfl
    have done : ∀ N' M' F', (∃ S', FS E F' w x (subs t) N' M' S' (k + 1)) → ∃ m', m' < (subs t).length - k ∧ ∃ (k' : Nat) (S : List Tr), ((k + 1 : Nat) : Int) = k' ∧ k' ≤ (subs t).length ∧ m' = (subs t).length - k' ∧ FS E F' w x (subs t) N' M' S k' := fun N' M' F' ⟨S', h⟩ =>
      ⟨(subs t).length - (k + 1), by omega, k + 1, S', rfl, by omega, rfl, h⟩
    refine ⟨(num (subs t) lo' : Int), by rw [cell_eq q10]; rfl, al, hal, by omega, by omega, _, hcl, (num (subs t) hi' : Int), by rw [cell_eq q10]; rfl, ah, hah, by omega, by omega, _, hch, (vv : Int), c0, fun hv => ?_, fun hv => ?_⟩
    · have hvw : vv = w := by omega
      rw [if_pos hvw] at hfx
      refine ⟨fun hx => ?_, fun hx => ?_⟩
      · rw [if_pos hx] at hfx
        unfold b87j2
        refine ⟨(vv : Int), c0, fun _ => ?_, fun hn => absurd hv hn⟩
        exact fixed_step (bl := barr (br (subs t) (node vv lo' hi'))) hs2 (by omega) q10 hk2 o1 ih ih (by omega) (by omega) (by rw [hfx]; simp [mk]) done
      · rw [if_neg (by simp [hx])] at hfx
        unfold b87j2
        refine ⟨(vv : Int), c0, fun _ => ?_, fun hn => absurd hv hn⟩
        exact fixed_step (bl := barr (br (subs t) (node vv lo' hi'))) hs2 (by omega) q10 hk2 o1 il il (by omega) (by omega) (by rw [hfx]; simp [mk]) done
    · have hvw : ¬ vv = w := by omega
      rw [if_neg hvw] at hfx
      unfold b87j2
      refine ⟨(vv : Int), c0, fun hn => absurd hn hv, fun _ => ?_⟩
      exact fixed_step (bl := barr (br (subs t) (node vv lo' hi'))) hs2 (by omega) q10 hk2 o1 il ih (by omega) (by omega) hfx done
  · obtain rfl : k = (subs t).length := by omega
    unfold b87j1
    have hni := subs_inn ht
    have hnl := num_le hni
    obtain ⟨hNl, a, ha, hc⟩ := hs.get (j := num (subs t) t) (by omega)
    rw [tr_num hT hni] at hc
    refine ⟨(num (subs t) t : Int), by rw [cell_eq (hs.le _ _ q3)]; rfl, a, ha, by omega, by omega, _, hc, ?_⟩
    have hinf := hs.inn (num (subs t) t) (by omega)
    rw [tr_num hT hni] at hinf
    have h16 := hs.le _ _ q6
    have hob' : OwnS (del1 F1 b6) 72 3 M (bflat (brs S)) := hs.nod.keep fun a ha => del1_of (fun e => by have := hs.nM a ha; rw [e, q6] at this; cases this)
    refine (callD (numbered_spec (F := del1 F1 b6) hob'.rd hs.cl hinf (by have := hs.len; omega)) h16).mono ?_
    rintro _ F2 ⟨u, rfl, ⟨G', hu, lG, gG⟩, l2, q2⟩
    refine ⟨_, rfl, ?_⟩
    exact ret2 (K := fun vres F' => ∃ w', Value.agg vres = .agg w' ∧ DV F' w' (dia (fx w x t)) ∧ F.le F') hu q2 rfl ⟨_, rfl, hu.le (le_set_new lG gG), le_set_new (l6.trans (hs.le.trans l2)) f6⟩
end
abbrev Few (d : Dia) : Prop := d.1.length ≤ 40
theorem f2_of {o : Op2} {a b : Tr} (ka : a.ok) (kb : b.ok) (la : (subs a).length ≤ 100000) (lb : (subs b).length ≤ 100000) : F2 o a b := by
  have h1 : ((subs a).length + 2) * ((subs b).length + 2) ≤ 100002 * 100002 := Nat.mul_le_mul (by omega) (by omega)
  have h2 := ap_length (o := fun x y _ => o x y) ka kb (d := leaf false) trivial
  have e0 : (subs (leaf false)).length = 0 := by simp [subs, vis]
  rw [e0] at h2
  have h3 : ((subs a).length + 2) * (((subs b).length + 2) * (0 + 2)) ≤ 100002 * (100002 * 2) := Nat.mul_le_mul (by omega) (Nat.mul_le_mul (by omega) (by omega))
  exact ⟨ka, kb, by omega, by omega, by omega, by show (subs (ap (fun x y _ => o x y) a b (leaf false))).length + 4 ≤ _; omega⟩
theorem ap2_length {o : Op2} {a b : Tr} (ka : a.ok) (kb : b.ok) : (subs (ap2 o a b)).length ≤ ((subs a).length + 2) * (((subs b).length + 2) * 2) := by
  have h2 := ap_length (o := fun x y _ => o x y) ka kb (d := leaf false) trivial
  have e0 : (subs (leaf false)).length = 0 := by simp [subs, vis]
  rw [e0] at h2
  exact h2
theorem few_subs {d : Dia} (h : Few d) (hc : chk d = 0) : (subs (tre d)).length ≤ 40 := by
  obtain ⟨_, e, _⟩ := chk0 hc
  have h' := h
  rw [e] at h'
  have : (dia (tre d)).1.length = (subs (tre d)).length := brs_length _
  omega
theorem fx_list {t : Tr} (ht : t.ok) (w : Nat) (b : Bool) : ∀ k, k ≤ (subs t).length → ∃ S, Cl S ∧ S.length ≤ k ∧ ∀ j, j < k + 2 → inn S (fx w b (tr (subs t) j))
  | 0, _ => ⟨[], .nil, Nat.le_refl _, fun j hj => by
    match j, hj with
    | 0, _ => show inn [] (fx w b (leaf false)); rw [fx_leaf]; exact inn_leaf _ _
    | 1, _ => show inn [] (fx w b (leaf true)); rw [fx_leaf]; exact inn_leaf _ _⟩
  | k + 1, hk => by
    have hT := subs_cl ht
    obtain ⟨S, hS, hl, hin⟩ := fx_list ht w b k (by omega)
    obtain ⟨hck, vv, lo', hi', hget, hlo, hhi, hok, _⟩ := cl_get hT k (by omega)
    have hlo2 := num_le hlo
    have hhi2 := num_le hhi
    rw [← num_take hlo, List.length_take] at hlo2
    rw [← num_take hhi, List.length_take] at hhi2
    have inl : inn (subs t) lo' := by rw [← List.take_append_drop k (subs t)]; exact inn_append hlo
    have inh : inn (subs t) hi' := by rw [← List.take_append_drop k (subs t)]; exact inn_append hhi
    have il : inn S (fx w b lo') := by have := hin (num (subs t) lo') (by omega); rwa [tr_num hT inl] at this
    have ih : inn S (fx w b hi') := by have := hin (num (subs t) hi') (by omega); rwa [tr_num hT inh] at this
    have hk2 : tr (subs t) (k + 2) = node vv lo' hi' := by
      unfold tr
      rw [if_neg (by omega), if_neg (by omega), Nat.add_sub_cancel, List.getD_eq_getElem?_getD, hget]
      rfl
    obtain ⟨o1, o2, o3, o4, o5, o6⟩ := hok
    obtain ⟨p1, p2, _⟩ := fx_facts w b o5
    obtain ⟨r1, r2, _⟩ := fx_facts w b o6
    have hfx := fx_node (w := w) (b := b) (v := vv) (l := lo') (h := hi') ⟨o1, o2, o3, o4, o5, o6⟩
    have old : inn S (fx w b (node vv lo' hi')) → ∃ S, Cl S ∧ S.length ≤ k + 1 ∧ ∀ j, j < k + 1 + 2 → inn S (fx w b (tr (subs t) j)) := fun h => ⟨S, hS, by omega, fun j hj => by
      by_cases hj2 : j < k + 2
      · exact hin j hj2
      · obtain rfl : j = k + 2 := by omega
        rw [hk2]; exact h⟩
    by_cases hi : inn S (fx w b (node vv lo' hi'))
    · exact old hi
    by_cases hv : vv = w
    · rw [if_pos hv] at hfx
      refine old ?_
      rw [hfx]
      split
      · exact ih
      · exact il
    · rw [if_neg hv] at hfx
      by_cases hab : fx w b lo' = fx w b hi'
      · refine old ?_
        rw [hfx]
        simp only [mk, hab, if_true]
        exact ih
      · have e : fx w b (node vv lo' hi') = node vv (fx w b lo') (fx w b hi') := by rw [hfx]; simp [mk, hab]
        rw [e] at hi
        refine ⟨S ++ [node vv (fx w b lo') (fx w b hi')], .snoc hS il ih ⟨o1, by omega, by omega, hab, p1, r1⟩ (fun hm => hi (.inr hm)), by simp; omega, fun j hj => ?_⟩
        by_cases hj2 : j < k + 2
        · exact inn_append (hin j hj2)
        · obtain rfl : j = k + 2 := by omega
          rw [hk2, e]
          exact .inr (by simp)
theorem fx_len {t : Tr} (ht : t.ok) (hl : (subs t).length ≤ 40) {w : Nat} {b : Bool} : (subs (fx w b t)).length ≤ 100000 := by
  obtain ⟨S, hS, hlS, hin⟩ := fx_list ht w b _ (Nat.le_refl _)
  have := hin (num (subs t) t) (by have := num_le (subs_inn ht); omega)
  rw [tr_num (subs_cl ht) (subs_inn ht)] at this
  have := subs_le hS this
  omega
section
variable {F : PH} {v : Array Value} {a : Dia}
theorem restrict_ref (fa : Few a) (ha : DV F v a) (w : Int) (x : Bool) : Spec prog 48 #[.agg v, vi w, .bool x] F fun r F' => DRV F' r (resD a w x) ∧ F.le F' := by
  have ha' := ha
  obtain ⟨s, rfl, ra⟩ := ha
  refine c48 ?_
  unfold b48
  intro b3 hb3
  refine atI ?_
  have lx := le_set_fresh (.cells #[s.v, vi a.2] 28) hb3
  have qb3 := set_eq F b3 (.cells #[s.v, vi a.2] 28)
  have l0 := lx
  clear lx
  generalize F.set b3 (.cells #[s.v, vi a.2] 28) = F0 at *
  intro b6 hb6
  refine atI ?_
  have fb6 : F b6 = none := le_none l0 hb6
  have nb3 : b3 ≠ b6 := ne_of_fresh hb6 qb3
  have lx := le_set_fresh (.cells #[Value.slice none 0 0, Value.int .i64 0] 28) hb6
  have qb6 := set_eq F0 b6 (.cells #[Value.slice none 0 0, Value.int .i64 0] 28)
  replace qb3 := lx _ _ qb3
  have l1 := l0.trans lx
  clear lx
  generalize F0.set b6 (.cells #[Value.slice none 0 0, Value.int .i64 0] 28) = F1 at *
  refine ⟨_, rfl, row_whole qb3, ?_⟩
  refine (check_ref (ha'.le l1) (by have : a.1.length ≤ 40 := fa; omega)).mono ?_
  rintro _ F9 ⟨rfl, l9⟩
  replace qb3 := l9 _ _ qb3
  replace qb6 := l9 _ _ qb6
  replace l9 := l1.trans l9
  have err : ∀ (e : Int), resD a w x = (none0, e) → ∀ {R : Value → PH → Prop}, (R = fun r F' => DRV F' r (resD a w x) ∧ F.le F') → 
      (#[Value.slice none 0 0, Value.int .i64 0] : Array Value).size = 2 ∧ (∀ v ∈ (#[Value.slice none 0 0, Value.int .i64 0] : Array Value).toList, storable v) ∧ ∃ c e', F9 (Addr.mk b6 0 none).block = some (.cells c e' (0, 0)) ∧ (Addr.mk b6 0 none).spot = none ∧ (Addr.mk b6 0 none).off + 2 ≤ c.size ∧
        atF (F9.set (Addr.mk b6 0 none).block (.cells (wr c (Addr.mk b6 0 none).off (#[Value.slice none 0 0, Value.int .i64 0] : Array Value).toList) e')) fun F' => ∃ vres : Array Value, vres.size = 2 ∧ F'.row (Addr.mk b6 0 none) vres ∧ R (.tuple #[.agg vres, .int .i64 e]) F' := fun e he R hR => by
    subst hR
    refine ret2 (K := fun vres F' => DRV F' (.tuple #[.agg vres, vi e]) (resD a w x) ∧ F.le F') (DV.none F) qb6 rfl ⟨?_, le_set_new l9 fb6⟩
    rw [he]
    exact ⟨_, rfl, DV.none _⟩
  refine ⟨_, rfl, fun h => err _ (by unfold resD; rw [if_pos h]) rfl, fun h => ?_⟩
  have hca : chk a = 0 := by omega
  obtain ⟨ka, ea, la⟩ := chk0 hca
  have sa := few_subs fa hca
  have bad : ∀ y : Bool, y = true → (w < 0 ∨ 63 < w) → b48j1 w x b3 b6 y (fun r F' => DRV F' r (resD a w x) ∧ F.le F') F9 := fun y hy hw => by
    unfold b48j1
    exact ⟨fun _ => err 1 (by unfold resD; rw [if_neg h, if_pos hw]) rfl, fun hf => by rw [hy] at hf; cases hf⟩
  refine ⟨fun hw => bad true rfl (.inl hw), fun hw => ?_⟩
  by_cases hw2 : 63 < w
  · exact bad _ (decide_eq_true hw2) (.inr hw2)
  · unfold b48j1
    refine ⟨fun hf => absurd (of_decide_eq_true hf) hw2, fun _ => ?_⟩
    have ld := le_del1 l9 fb6
    have da : ∀ {G : PH}, F.le G → DV G #[s.v, vi a.2] (dia (tre a)) := fun h => by rw [← ea]; exact ha'.le h
    have hwn : ((w.toNat : Nat) : Int) = w := by omega
    have hd : resD a w x = lim (dia (fx w.toNat x (tre a))) := by unfold resD; rw [if_neg h, if_neg (by omega)]
    rw [hd]
    refine ⟨_, rfl, row_whole qb3, ?_⟩
    have sp := fixed_ref (F := del1 F9 b6) (da ld) ka (by omega) w.toNat x
    rw [hwn] at sp
    refine (callD sp qb6).mono ?_
    rintro _ F10 ⟨z, rfl, ⟨G, hz, lG, gG⟩, l10, q10⟩
    refine ⟨_, rfl, ?_⟩
    refine (callDR (limited_ref (hz.beside lG gG)) q10).mono ?_
    rintro _ F11 ⟨y, rfl, ⟨G2, hy, lG2, gG2⟩, l11, q11⟩
    exact ⟨_, _, rfl, retDR hy lG2 gG2 q11 rfl (l9.trans (l10.trans l11)) fb6⟩
theorem exists_ref (fa : Few a) (ha : DV F v a) (w : Int) : Spec prog 49 #[.agg v, vi w] F fun r F' => DRV F' r (exD a w) ∧ F.le F' := by
  have ha' := ha
  obtain ⟨s, rfl, ra⟩ := ha
  refine c49 ?_
  unfold b49
  intro b2 hb2
  refine atI ?_
  have lx := le_set_fresh (.cells #[s.v, vi a.2] 28) hb2
  have qb2 := set_eq F b2 (.cells #[s.v, vi a.2] 28)
  have l0 := lx
  clear lx
  generalize F.set b2 (.cells #[s.v, vi a.2] 28) = F0 at *
  intro b4 hb4
  refine atI ?_
  have fb4 : F b4 = none := le_none l0 hb4
  have nb2 : b2 ≠ b4 := ne_of_fresh hb4 qb2
  have lx := le_set_fresh (.cells #[Value.slice none 0 0, Value.int .i64 0] 28) hb4
  have qb4 := set_eq F0 b4 (.cells #[Value.slice none 0 0, Value.int .i64 0] 28)
  replace qb2 := lx _ _ qb2
  have l1 := l0.trans lx
  clear lx
  generalize F0.set b4 (.cells #[Value.slice none 0 0, Value.int .i64 0] 28) = F1 at *
  refine ⟨_, rfl, row_whole qb2, ?_⟩
  refine (check_ref (ha'.le l1) (by have : a.1.length ≤ 40 := fa; omega)).mono ?_
  rintro _ F9 ⟨rfl, l9⟩
  replace qb2 := l9 _ _ qb2
  replace qb4 := l9 _ _ qb4
  replace l9 := l1.trans l9
  have err : ∀ (e : Int), exD a w = (none0, e) → ∀ {R : Value → PH → Prop}, (R = fun r F' => DRV F' r (exD a w) ∧ F.le F') → 
      (#[Value.slice none 0 0, Value.int .i64 0] : Array Value).size = 2 ∧ (∀ v ∈ (#[Value.slice none 0 0, Value.int .i64 0] : Array Value).toList, storable v) ∧ ∃ c e', F9 (Addr.mk b4 0 none).block = some (.cells c e' (0, 0)) ∧ (Addr.mk b4 0 none).spot = none ∧ (Addr.mk b4 0 none).off + 2 ≤ c.size ∧
        atF (F9.set (Addr.mk b4 0 none).block (.cells (wr c (Addr.mk b4 0 none).off (#[Value.slice none 0 0, Value.int .i64 0] : Array Value).toList) e')) fun F' => ∃ vres : Array Value, vres.size = 2 ∧ F'.row (Addr.mk b4 0 none) vres ∧ R (.tuple #[.agg vres, .int .i64 e]) F' := fun e he R hR => by
    subst hR
    refine ret2 (K := fun vres F' => DRV F' (.tuple #[.agg vres, vi e]) (exD a w) ∧ F.le F') (DV.none F) qb4 rfl ⟨?_, le_set_new l9 fb4⟩
    rw [he]
    exact ⟨_, rfl, DV.none _⟩
  refine ⟨_, rfl, fun h => err _ (by unfold exD; rw [if_pos h]) rfl, fun h => ?_⟩
  have hca : chk a = 0 := by omega
  obtain ⟨ka, ea, la⟩ := chk0 hca
  have sa := few_subs fa hca
  have bad : ∀ y : Bool, y = true → (w < 0 ∨ 63 < w) → b49j1 w b2 b4 y (fun r F' => DRV F' r (exD a w) ∧ F.le F') F9 := fun y hy hw => by
    unfold b49j1
    exact ⟨fun _ => err 1 (by unfold exD; rw [if_neg h, if_pos hw]) rfl, fun hf => by rw [hy] at hf; cases hf⟩
  refine ⟨fun hw => bad true rfl (.inl hw), fun hw => ?_⟩
  by_cases hw2 : 63 < w
  · exact bad _ (decide_eq_true hw2) (.inr hw2)
  · unfold b49j1
    refine ⟨fun hf => absurd (of_decide_eq_true hf) hw2, fun _ => ?_⟩
    have ld := le_del1 l9 fb4
    have da : ∀ {G : PH}, F.le G → DV G #[s.v, vi a.2] (dia (tre a)) := fun h => by rw [← ea]; exact ha'.le h
    have hwn : ((w.toNat : Nat) : Int) = w := by omega
    obtain ⟨k0, _, _⟩ := fx_facts w.toNat false ka
    obtain ⟨k1, _, _⟩ := fx_facts w.toNat true ka
    have c0 := subs_length (fx w.toNat false (tre a))
    have hd : exD a w = lim (dia (ap2 oOr (fx w.toNat false (tre a)) (fx w.toNat true (tre a)))) := by unfold exD; rw [if_neg h, if_neg (by omega)]; rfl
    rw [hd]
    refine ⟨_, rfl, row_whole qb2, _, rfl, row_whole qb2, ?_⟩
    have sp := fixed_ref (F := del1 F9 b4) (da ld) ka (by omega) w.toNat false
    rw [hwn] at sp
    refine (callD sp qb4).mono ?_
    rintro _ F12 ⟨z1, rfl, ⟨G1, hz1, lG1, gG1⟩, l12, q12⟩
    refine ⟨_, rfl, row_whole (l12 _ _ qb2), ?_⟩
    have sp := fixed_ref (F := del1 F12 b4) (da (le_del1 (l9.trans l12) fb4)) ka (by omega) w.toNat true
    rw [hwn] at sp
    refine (callD sp q12).mono ?_
    rintro _ F13 ⟨z2, rfl, ⟨G2, hz2, lG2, gG2⟩, l13, q13⟩
    refine ⟨_, rfl, ?_⟩
    refine (callD (union_spec (hz1.beside (lG1.trans l13) gG1) (hz2.beside lG2 gG2) (f2_of k0 k1 (fx_len ka sa) (fx_len ka sa))) q13).mono ?_
    replace l9 := l9.trans (l12.trans l13)
    rintro _ F10 ⟨z, rfl, ⟨G, hz, lG, gG⟩, l10, q10⟩
    refine ⟨_, rfl, ?_⟩
    refine (callDR (limited_ref (hz.beside lG gG)) q10).mono ?_
    rintro _ F11 ⟨y, rfl, ⟨G2, hy, lG2, gG2⟩, l11, q11⟩
    exact ⟨_, _, rfl, retDR hy lG2 gG2 q11 rfl (l9.trans (l10.trans l11)) fb4⟩
theorem in_ref {t : Tr} (ha : DV F v (dia t)) (ht : t.ok) (hf : (subs t).length ≤ 4096) {c : Int} (h0 : 0 ≤ c) (h1 : c < 18446744073709551616) : Spec prog 90 #[.agg v, .int .u64 c] F fun r F' => r = .bool (t.ev (cfg c)) ∧ F.le F' := by
  obtain ⟨s, rfl, hr⟩ := ha
  have hT := subs_cl ht
  have hr' : RdS F s 3 (bflat (brs (subs t))) := hr
  have hlen := hr'.blen
  rw [brs_length] at hlen
  refine c90 ?_
  unfold b90
  intro b2 hb2
  refine atI ?_
  have l2 := le_set_fresh (.cells #[s.v, vi (dia t).2] 28) hb2
  have q2 := set_eq F b2 (.cells #[s.v, vi (dia t).2] 28)
  generalize F.set b2 (.cells #[s.v, vi (dia t).2] 28) = F3 at *
  refine ⟨(num (subs t) t : Int), by rw [cell_eq q2]; rfl, ?_⟩
  refine ⟨fun m i F' => ∃ t', i = (num (subs t) t' : Int) ∧ inn (subs t) t' ∧ m = t'.sz ∧ F3.le F' ∧ t'.ev (cfg c) = t.ev (cfg c), t.sz, ⟨t, rfl, subs_inn ht, rfl, PH.le_rfl, rfl⟩, ?_⟩
  rintro m i F4 ⟨t', rfl, hin, rfl, l4, hev⟩
  unfold b90L1
  refine ⟨fun hlt => ?_, fun hge => ?_⟩
  · cases t' with
    | leaf x => have := num_leaf_le (subs t) x; omega
    | node w l r =>
      obtain ⟨il, ir⟩ := hT.inn_kids hin
      obtain ⟨o1, _⟩ := hT.inn_ok hin
      have hg := num_ge (S := subs t) (t := node w l r) rfl
      have hnl := num_le hin
      have hw := w64m2 (n := num (subs t) (node w l r)) (by omega) hg
      obtain ⟨p, hp, hrow, _⟩ := rdb (hr'.le (l2.trans l4)) (brs_get (num_get (inn_mem hin rfl) rfl))
      refine ⟨s, by rw [cell_eq (l4 _ _ q2)]; rfl, p, hp, by rw [hw]; omega, by rw [hw]; omega, barr (br (subs t) (node w l r)), rfl, by rw [hw]; exact hrow, ?_⟩
      intro b6 hb6
      refine atI ?_
      refine stW (set_eq _ _ _) rfl rfl (st_barr _) ?_
      rw [set_twice]
      have l6 := l4.trans (le_set_fresh (.cells (barr (br (subs t) (node w l r))) 72) hb6)
      refine ⟨(w : Int), by rw [cell_eq (set_eq _ _ _)]; rfl, by rw [wu64_eq (by omega) (by omega)]; omega, fun hb => ?_, fun hb => ?_⟩
      · rw [wu64_eq (x := (w : Int)) (by omega) (by omega)] at hb
        have hb' := (bit_test h0 h1 o1).1 hb
        refine ⟨_, by rw [cell_eq (set_eq _ _ _)]; rfl, r.sz, by simp only [sz]; omega, r, rfl, ir, rfl, l6, ?_⟩
        rw [← hev]
        simp [Tr.ev, hb']
      · have hb' : ¬ cfg c w = true := fun hc => hb (by rw [wu64_eq (x := (w : Int)) (by omega) (by omega)]; exact (bit_test h0 h1 o1).2 hc)
        refine ⟨_, by rw [cell_eq (set_eq _ _ _)]; rfl, l.sz, by simp only [sz]; omega, l, rfl, il, rfl, l6, ?_⟩
        rw [← hev]
        simp [Tr.ev, hb']
  · unfold b90j1
    refine ⟨?_, l2.trans l4⟩
    rw [← hev]
    cases t' with
    | leaf x => cases x <;> simp [num, Tr.ev]
    | node w l r => have := num_ge (S := subs t) (t := node w l r) rfl; omega
theorem holds_ref (fa : Few a) (ha : DV F v a) {c : Int} (h0 : 0 ≤ c) (h1 : c < 18446744073709551616) : Spec prog 54 #[.agg v, .int .u64 c] F fun r F' => r = .bool (holdsD a c) ∧ F.le F' := by
  have ha' := ha
  obtain ⟨s, rfl, hr⟩ := ha
  refine c54 ?_
  unfold b54
  intro b2 hb2
  refine atI ?_
  have l2 := le_set_fresh (.cells #[s.v, vi a.2] 28) hb2
  have q2 := set_eq F b2 (.cells #[s.v, vi a.2] 28)
  generalize F.set b2 (.cells #[s.v, vi a.2] 28) = F2 at *
  refine ⟨_, rfl, row_whole q2, ?_⟩
  refine (check_ref (ha'.le l2) (by have : a.1.length ≤ 40 := fa; omega)).mono ?_
  rintro _ F3 ⟨rfl, l3⟩
  refine ⟨_, rfl, fun h => ?_, fun h => ?_⟩
  · obtain ⟨ka, ea, la⟩ := chk0 h
    have da : DV F3 #[s.v, vi a.2] (dia (tre a)) := by rw [← ea]; exact ha'.le (l2.trans l3)
    have he : holdsD a c = (tre a).ev (cfg c) := by unfold holdsD; rw [if_neg (by omega)]
    refine ⟨_, rfl, row_whole (l3 _ _ q2), (in_ref da ka (by have := few_subs fa h; omega) h0 h1).mono ?_⟩
    rintro _ F4 ⟨rfl, l4⟩
    exact ⟨_, rfl, by rw [he], l2.trans (l3.trans l4)⟩
  · refine ⟨?_, l2.trans l3⟩
    unfold holdsD
    rw [if_pos h]
theorem hasL_succ' (t : Tr) (n : Nat) : hasL t (n + 1) = hasL t n ++ (open Classical in if has n t then [n] else []) := by
  unfold hasL
  rw [List.range_succ, List.filter_append]
  congr 1
  rw [List.filter_cons, List.filter_nil]
  split <;> split <;> simp_all
theorem has_any {t : Tr} (ht : t.ok) (n : Nat) : (brs (subs t)).any (fun b => decide (b.v = (n : Int))) = true ↔ has n t := by
  rw [has_subs ht, List.any_eq_true]
  unfold brs
  constructor
  · rintro ⟨b, hb, e⟩
    obtain ⟨u, hu, rfl⟩ := List.mem_map.1 hb
    obtain ⟨_, v, l, r, rfl, _⟩ := (subs_cl ht).mem u hu
    refine ⟨_, hu, ?_⟩
    have : ((v : Nat) : Int) = n := of_decide_eq_true e
    show v = n
    omega
  · rintro ⟨u, hu, e⟩
    obtain ⟨_, v, l, r, rfl, _⟩ := (subs_cl ht).mem u hu
    refine ⟨_, List.mem_map.2 ⟨_, hu, rfl⟩, decide_eq_true ?_⟩
    have e' : v = n := e
    show ((v : Nat) : Int) = n
    omega
theorem support_ref (fa : Few a) (ha : DV F v a) : Spec prog 57 #[.agg v] F fun r F' => ∃ s, r = Sl.v s ∧ RdS F' s 1 ((supD a).map vi) ∧ F.le F' := by
  have ha' := ha
  obtain ⟨s, rfl, hr⟩ := ha
  refine c57 ?_
  unfold b57
  intro b1 hb1
  refine atI ?_
  have l1 := le_set_fresh (.cells #[s.v, vi a.2] 28) hb1
  have q1 := set_eq F b1 (.cells #[s.v, vi a.2] 28)
  generalize F.set b1 (.cells #[s.v, vi a.2] 28) = F1 at *
  intro b7 hb7
  refine atI ?_
  have lx := le_set_fresh (.cells #[] 3) hb7
  have q7 := set_eq F1 b7 (.cells #[] 3)
  have l7 := l1.trans lx
  replace q1 := lx _ _ q1
  have f7 : F b7 = none := le_none l1 hb7
  have n17 : b1 ≠ b7 := ne_of_fresh hb7 (show F1 b1 = _ from by have := set_eq F1 b1 (.cells #[] 3); exact (by rw [← q1, set_ne _ _ (fun e => by rw [e] at q1; rw [q7] at q1; cases q1)]))
  generalize F1.set b7 (.cells #[] 3) = F2 at *
  refine ⟨_, rfl, row_whole q1, ?_⟩
  refine (check_ref (ha'.le l7) (by have : a.1.length ≤ 40 := fa; omega)).mono ?_
  rintro _ F3 ⟨rfl, l3⟩
  replace q1 := l3 _ _ q1
  replace q7 := l3 _ _ q7
  replace l3 := l7.trans l3
  have ho0 : OwnS F3 3 1 ⟨some ⟨b7, 0, none⟩, 0, 0⟩ [] := .inr ⟨b7, #[], rfl, q7, rfl, Nat.le_refl _, rfl, rfl⟩
  refine ⟨_, rfl, fun hk => ⟨_, rfl, by unfold supD; rw [if_pos hk]; exact ho0.rd, l3⟩, fun hk => ?_⟩
  have hk0 : chk a = 0 := by omega
  obtain ⟨ka, ea, la⟩ := chk0 hk0
  have hsup : supD a = (hasL (tre a) 64).map fun (i : Nat) => (i : Int) := by
    unfold supD
    rw [if_neg hk, ← supL_tree ka, ← ea]
  rw [hsup]
  have h40 : a.1.length ≤ 40 := fa
  have hlen := hr.blen
  have ebrs : brs (subs (tre a)) = a.1 := by conv => rhs; rw [ea]
                                             rfl
  -- E: all but the row that is built
  have hE : F.le (del1 F3 b7) := le_del1 l3 f7
  have qE : (del1 F3 b7) b1 = some (.cells #[s.v, vi a.2] 28) := by rw [del1_of n17]; exact q1
  have gE : (del1 F3 b7) b7 = none := del1_1 _ _
  have lE : (del1 F3 b7).le F3 := del1_le _ _
  generalize del1 F3 b7 = E at *
  refine ⟨fun m out i F' => ∃ n : Nat, i = n ∧ n ≤ 64 ∧ m = 64 - n ∧ E.le F' ∧ OwnS F' 3 1 out (((hasL (tre a) n).map fun (i : Nat) => (i : Int)).map vi) ∧ ∀ b, out.base = some b → E b.block = none, 64,
    ⟨0, rfl, by omega, rfl, lE, by simpa [hasL] using ho0, fun b h => by cases h; exact gE⟩, ?_⟩
  rintro m out i F4 ⟨n, rfl, hn, rfl, l4, ho, hne⟩
  have hll : (hasL (tre a) n).length ≤ 64 := by
    unfold hasL
    exact Nat.le_trans (List.length_filter_le _ _) (by simp; exact hn)
  have hol : out.len = (hasL (tre a) n).length := by
    have := ho.rd.len
    simp at this
    omega
  unfold b57L1
  refine ⟨fun hlt => ?_, fun hge => ?_⟩
  · refine ⟨fun m fo i F' => ∃ k : Nat, i = k ∧ k ≤ a.1.length ∧ m = a.1.length - k ∧ F' = F4 ∧ fo = (a.1.take k).any (fun b => decide (b.v = (n : Int))), a.1.length, ⟨0, rfl, by omega, rfl, rfl, by simp⟩, ?_⟩
    rintro m fo i F5 ⟨k, rfl, hk', rfl, rfl, rfl⟩
    unfold b57L2
    have cs : F5.cell (Addr.mk b1 0 none) = some s.v := by rw [cell_eq (l4 _ _ qE)]; rfl
    refine ⟨s, cs, fun hlt2 => ?_, fun hge2 => ?_⟩
    · have hka : k < a.1.length := by omega
      have hstep : (a.1.take (k + 1)).any (fun b => decide (b.v = (n : Int))) = ((a.1.take k).any (fun b => decide (b.v = (n : Int))) || decide (a.1[k].v = (n : Int))) := by
        rw [List.take_succ_eq_append_getElem hka, List.any_append]
        simp
      have nx : ∀ fo, fo = (a.1.take (k + 1)).any (fun b => decide (b.v = (n : Int))) → ∃ m', m' < a.1.length - k ∧ ∃ k' : Nat, IntKind.i64.wrap ((k : Int) + 1) = k' ∧ k' ≤ a.1.length ∧ m' = a.1.length - k' ∧ F5 = F5 ∧ fo = (a.1.take k').any (fun b => decide (b.v = (n : Int))) :=
        fun fo h => ⟨a.1.length - (k + 1), by omega, k + 1, w64s (by omega), by omega, rfl, rfl, h⟩
      refine ⟨fun hf => ?_, fun hf => ?_⟩
      · unfold b57j4
        exact nx _ (by rw [hstep, hf]; rfl)
      · obtain ⟨p, hp, _, hc, _⟩ := rdb (hr.le (hE.trans l4)) (List.getElem?_eq_getElem hka)
        refine ⟨s, cs, p, hp, by omega, hlt2, _, by simpa using hc, ?_⟩
        unfold b57j4
        exact nx _ (by rw [hstep, hf]; rfl)
    · obtain rfl : k = a.1.length := by omega
      rw [List.take_length]
      have hany := has_any ka n
      rw [ebrs] at hany
      unfold b57j3
      refine ⟨fun hf => ?_, fun hf => ?_⟩
      · intro b37 hb37
        refine atI ?_
        have l37 := le_set_fresh (.cells #[vi (n : Int)] 3) hb37
        have q37 := set_eq F5 b37 (.cells #[vi (n : Int)] 3)
        have ho37 := ho.upto l37
        generalize F5.set b37 (.cells #[vi (n : Int)] 3) = F6 at *
        refine own_app (F0 := E) (bytes := 8) (z := vi 0) (news := [vi (n : Int)]) underlying68 sz3 zr3 rfl (by omega) (l4.trans l37) ho37 hne (RdS.new q37 rfl rfl (Nat.le_refl _)) (by simp [storable]) (by simp only; omega) (by simp only; omega) ?_
        intro s' F7 h1 h2 _ h4 _ _
        refine ⟨s', rfl, ?_⟩
        unfold b57j2
        refine ⟨64 - (n + 1), by omega, n + 1, w64s (by omega), by omega, rfl, h1, ?_, h4⟩
        rw [hasL_succ', if_pos (hany.1 hf)]
        simpa using h2
      · unfold b57j2
        refine ⟨64 - (n + 1), by omega, n + 1, w64s (by omega), by omega, rfl, l4, ?_, hne⟩
        rw [hasL_succ', if_neg (fun hh => by rw [hany.2 hh] at hf; cases hf), List.append_nil]
        exact ho
  · obtain rfl : n = 64 := by omega
    unfold b57j1
    exact ⟨_, rfl, ho.rd, hE.trans l4⟩
end
theorem sameInts_spec {F : PH} {s s' : Sl} {zs : List Int} (h : RdS F s 1 (zs.map vi)) (h' : RdS F s' 1 (zs.map vi)) (hl : zs.length ≤ 1000000) : Spec prog 55 #[s.v, s'.v] F fun r F' => r = .bool true ∧ F' = F := by
  have e1 : s.len = zs.length := by have := h.len; simp at this; omega
  have e2 : s'.len = zs.length := by have := h'.len; simp at this; omega
  refine c55 ?_
  unfold b55
  refine ⟨fun hn => absurd (by rw [e1, e2]) hn, fun _ => ?_⟩
  refine ⟨fun m i F' => ∃ k : Nat, i = k ∧ k ≤ zs.length ∧ m = zs.length - k ∧ F' = F, zs.length, ⟨0, rfl, by omega, rfl, rfl⟩, ?_⟩
  rintro m i F' ⟨k, rfl, hk, rfl, rfl⟩
  unfold b55L1
  refine ⟨fun hlt => ?_, fun _ => ⟨rfl, rfl⟩⟩
  have hkz : k < zs.length := by omega
  obtain ⟨b, o, g1, g2⟩ := h.cells (by omega)
  obtain ⟨b', o', g1', g2'⟩ := h'.cells (by omega)
  have c := g2 k (by simpa using hkz)
  have c' := g2' k (by simpa using hkz)
  exact ⟨_, g1, by omega, by omega, zs[k], by simpa using c, _, g1', by omega, by omega, zs[k], by simpa using c', fun hn => absurd rfl hn, fun _ => ⟨zs.length - (k + 1), by omega, k + 1, w64s (by omega), by omega, rfl, rfl⟩⟩
end Go.Proofs.Ytafojmoeaneedaa

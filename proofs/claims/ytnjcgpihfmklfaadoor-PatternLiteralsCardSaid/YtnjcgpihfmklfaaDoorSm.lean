/-
  PatternLiterals: what Literal returns.
-/
import Derived.Test.YtnjcgpihfmklfaaDoorSk
import Derived.Test.YtnjcgpihfmklfaaDoorSn
import Derived.Test.YtnjcgpihfmklfaaDoorSs
import Derived.Test.YtnjcgpihfmklfaaDoorGs
import Derived.Test.YtnjcgpihfmklfaaDoorGm
import Derived.Test.YtnjcgpihfmklfaaDoorGL14
namespace Go.Proofs.YtnjcgpihfmklfaaDoor
open Go Go.Proofs.Tryd
set_option maxRecDepth 10000

/-- The literal of a nonempty string: the ranges of its bytes, joined from the left. -/
def litT : List Nat → Pat
  | [] => .emp
  | b :: w => w.foldl (fun t c => .seq t (.rng c c)) (.rng b b)
theorem lit_snoc (w : List Nat) (b : Nat) (h : w ≠ []) : litT (w ++ [b]) = .seq (litT w) (.rng b b) := by
  cases w with
  | nil => exact absurd rfl h
  | cons c w => simp [litT, List.foldl_append]
theorem snoc_ind {P : List Nat → Prop} (h0 : P []) (h1 : ∀ w b, P w → P (w ++ [b])) : ∀ w, P w := by
  intro w
  have : ∀ n (w : List Nat), w.length = n → P w := by
    intro n
    induction n with
    | zero => intro w hw; rw [List.length_eq_zero_iff.1 hw]; exact h0
    | succ n ih =>
      intro w hw
      have hne : w ≠ [] := by intro e; rw [e] at hw; simp at hw
      have e := List.dropLast_concat_getLast hne
      rw [← e]
      exact h1 _ _ (ih _ (by simp [hw]))
  exact this _ w rfl
theorem lit_size (w : List Nat) : w ≠ [] → (litT w).size = 2 * w.length - 1 := by
  refine snoc_ind (P := fun w => w ≠ [] → (litT w).size = 2 * w.length - 1) (fun h => absurd rfl h) (fun w b ih _ => ?_) w
  by_cases h : w = []
  · subst h
    rfl
  · rw [lit_snoc w b h]
    have hp := List.length_pos_iff.2 h
    simp only [Pat.size, ih h, List.length_append, List.length_singleton]
    omega
theorem lit_byt (w : List Nat) : (∀ b ∈ w, b < 256) → (litT w).byt := by
  refine snoc_ind (P := fun w => (∀ b ∈ w, b < 256) → (litT w).byt) (fun _ => trivial) (fun w b ih hb => ?_) w
  have hbb := hb b (by simp)
  by_cases h : w = []
  · subst h
    exact ⟨Nat.le_refl _, by omega⟩
  · rw [lit_snoc w b h]
    exact ⟨ih fun c hc => hb c (by simp [hc]), Nat.le_refl _, by omega⟩
theorem lit_lg (w : List Nat) : ∀ v, Lg (litT w) v ↔ v = w := by
  refine snoc_ind (P := fun w => ∀ v, Lg (litT w) v ↔ v = w) (fun v => Iff.rfl) (fun w b ih v => ?_) w
  by_cases h : w = []
  · subst h
    show (∃ c, v = [c] ∧ b ≤ c ∧ c ≤ b) ↔ v = [b]
    constructor
    · rintro ⟨c, rfl, h1, h2⟩
      rw [show c = b by omega]
    · rintro rfl
      exact ⟨b, rfl, Nat.le_refl _, Nat.le_refl _⟩
  · rw [lit_snoc w b h]
    constructor
    · rintro ⟨u, x, rfl, h1, ⟨c, rfl, h2, h3⟩⟩
      rw [(ih u).1 h1, show c = b by omega]
    · rintro rfl
      exact ⟨w, [b], rfl, (ih w).2 rfl, ⟨b, rfl, Nat.le_refl _, Nat.le_refl _⟩⟩
/-- What Literal returns. -/
def litR (st : ByteArray) : List Nd × Int := if 256 < st.size then ([], 2) else ((litT (bs st)).nodes 0, 0)
theorem lit_nodes (w : List Nat) (b : Nat) (h : w ≠ []) : (litT (w ++ [b])).nodes 0 = (litT w).nodes 0 ++ [⟨1, b, b, 0, 0⟩] ++ [⟨2, 0, 0, ((litT w).size : Int) - 1, ((litT w).size : Int)⟩] := by
  have hp := (litT w).size_pos
  rw [lit_snoc w b h]
  simp only [Pat.nodes, Pat.size]
  congr 4
  all_goals omega
structure OwN (G F : PH) (s : Sl) (l : List Nd) : Prop where
  le : G.le F
  own : OwnS F 50 5 s (nflat l)
  oz : ∀ a, s.base = some a → G a.block = none
section
variable {F : PH}
theorem OwN.push {G : PH} {s : Sl} {l : List Nd} (h : OwN G F s l) (x : Nd) (hl : s.len ≤ 1000000) {K : Sl → PH → Prop} (k : ∀ s' F', OwN G F' s' (l ++ [x]) → K s' F') :
    ∀ b, F b = none → atF (F.set b (.cells x.arr 50)) fun F =>
      runs prog (Builtin.append_ #[25, 25] 25 #[(Sl.v s), (Sl.v (Sl.mk (some (Addr.mk b 0 none)) 1 1))]) F fun v F => ∃ s' : Sl, v = (Sl.v s') ∧ K s' F := by
  intro b hb
  refine atI ?_
  have l1 := le_set_fresh (.cells x.arr 50) hb
  have q1 := set_eq F b (.cells x.arr 50)
  have o1 : OwnS (F.set b (.cells x.arr 50)) 50 5 s (nflat l) := h.own.keep fun a ha => by
    obtain ⟨o', ho⟩ := h.own.some ha
    exact set_ne _ _ (ne_of_fresh hb ho)
  generalize F.set b (.cells x.arr 50) = F1 at *
  refine own_app (F0 := G) (x := ⟨some ⟨b, 0, none⟩, 1, 1⟩) (news := x.cells) underlying25 sz50' zr50' rfl (by decide) (le_trans' h.le l1) o1 h.oz (RdS.new q1 rfl rfl (Nat.le_refl _)) (st_narr x) (by simp only; omega) (by simp only; omega) ?_
  intro s' F2 le2 ho2 hl2 hnew keep hsome
  have e : nflat l ++ x.cells = nflat (l ++ [x]) := by simp [nflat]
  rw [e] at ho2
  exact ⟨s', rfl, k s' F2 ⟨le2, ho2, hnew⟩⟩
def lI1 (F0 : PH) (st : ByteArray) : Nat → Sl → Int → PH → Prop := fun m s i F' => ∃ w : Nat, i = w ∧ w ≤ st.size ∧ m = st.size - w ∧ OwN F0 F' s (if w = 0 then [] else (litT ((bs st).take w)).nodes 0)
theorem literal_spec (F : PH) (st : ByteArray) (hsz : st.size ≤ 9000000000000000) : Spec prog 36 #[.string st] F fun r F' => PatR F' r (litR st) ∧ F.le F' := by
  have ew : IntKind.i64.wrap ((2 : Int) * (st.size : Int)) = ((2 * st.size : Nat) : Int) := by rw [w64_eq (by omega) (by omega)]; omega
  refine c36 ?_
  unfold b36
  rw [ew]
  refine ⟨fun h => ?_, fun h => ⟨fun h0 => ?_, fun h0 => ?_⟩⟩
  · have e : litR st = ([], 2) := by unfold litR; rw [if_pos (by omega)]
    rw [e]
    exact ⟨⟨_, rfl, PatV.nil F⟩, le_refl' F⟩
  · have hb : bs st = [] := by
      rw [beq_bs] at h0
      exact of_decide_eq_true h0
    have e : litR st = (Pat.emp.nodes 0, 0) := by unfold litR; rw [if_neg (by omega), hb]; rfl
    rw [e]
    refine ⟨rfl, fun b hb => ?_⟩
    exact atI ⟨⟨_, rfl, ⟨_, rfl, RdS.new (set_eq _ _ _) rfl rfl (Nat.le_refl _)⟩⟩, le_set_fresh _ hb⟩
  · have hb : bs st ≠ [] := by
      rw [beq_bs] at h0
      exact of_decide_eq_false h0
    have hpos : 0 < st.size := by rw [← bs_length]; exact List.length_pos_iff.2 hb
    have e : litR st = ((litT (bs st)).nodes 0, 0) := by unfold litR; rw [if_neg (by omega)]
    rw [e]
    refine ⟨lI1 F st, st.size, ⟨0, rfl, by omega, by omega, ⟨le_refl' F, .inl ⟨rfl, rfl⟩, fun a ha => (by cases ha)⟩⟩, ?_⟩
    rintro _ s _ F1 ⟨w, rfl, hw, rfl, hO⟩
    unfold b36L1
    refine ⟨fun hlt => ?_, fun hge => ?_⟩
    · have hw' : w < st.size := by omega
      have hwl : w < (bs st).length := by rw [bs_length]; exact hw'
      have hx : (bs st)[w]? = some (bs st)[w] := List.getElem?_eq_getElem hwl
      have hlt256 := bs_lt st _ (List.getElem_mem hwl)
      have hget : ∀ (hx : Int.toNat (w : Int) < st.size), ((st[Int.toNat (w : Int)]'hx).toNat : Int) = (((bs st)[w] : Nat) : Int) := fun hx => by
        simp [bs]
        rfl
      have htk : (bs st).take (w + 1) = (bs st).take w ++ [(bs st)[w]] := by rw [List.take_add_one, hx]; rfl
      refine ⟨by omega, by omega, by rw [Int.toNat_natCast]; exact hw', _, rfl, by omega, by omega, by rw [Int.toNat_natCast]; exact hw', _, rfl, rfl, ?_⟩
      rw [hget]
      generalize (bs st)[w] = x at *
      rw [w64_eq (x := (x : Int)) (by omega) (by omega)]
      have hsn : s.len = (if w = 0 then [] else (litT ((bs st).take w)).nodes 0).length := hO.own.rd.nlen
      have hsl : s.len ≤ 1000 := by
        rw [hsn]
        split
        · simp
        · rename_i h0
          rw [Pat.nodes_length, lit_size _ (by intro e; have := congrArg List.length e; simp only [List.length_take, List.length_nil, bs_length] at this; omega), List.length_take, bs_length]
          omega
      refine hO.push ⟨1, x, x, 0, 0⟩ (by omega) fun s1 F2 h1 => ⟨fun hp => ?_, fun hp => ?_⟩
      · have hw0 : ¬ w = 0 := by omega
        have hne : (bs st).take w ≠ [] := by intro e; have := congrArg List.length e; simp only [List.length_take, List.length_nil, bs_length] at this; omega
        rw [if_neg hw0] at h1 hsn
        rw [Pat.nodes_length] at hsn
        have hp1 := (litT ((bs st).take w)).size_pos
        rw [w64_eq (x := (s.len : Int) - 1) (by omega) (by omega), w64_eq (x := (s.len : Int) - 1 + 1) (by omega) (by omega)]
        refine ⟨rfl, ?_⟩
        have hs1 : s1.len = s.len + 1 := by
          have := h1.own.rd.nlen
          rw [List.length_append, Pat.nodes_length, List.length_singleton] at this
          omega
        refine h1.push ⟨2, 0, 0, (s.len : Int) - 1, (s.len : Int) - 1 + 1⟩ (by omega) fun s2 F3 h2 => ?_
        unfold b36j2
        refine ⟨st.size - (w + 1), by omega, w + 1, w64s (by omega), by omega, rfl, ?_⟩
        rw [if_neg (by omega), htk, lit_nodes _ _ hne]
        rw [hsn, show ((litT (List.take w (bs st))).size : Int) - 1 + 1 = ((litT (List.take w (bs st))).size : Int) by omega] at h2
        exact h2
      · obtain rfl : w = 0 := by omega
        unfold b36j2
        refine ⟨st.size - (0 + 1), by omega, 0 + 1, w64s (by omega), by omega, rfl, ?_⟩
        rw [if_neg (by omega), htk]
        exact h1
    · have hw' : w = st.size := by omega
      subst hw'
      rw [if_neg (by omega), List.take_of_length_le (by rw [bs_length]; exact Nat.le_refl _)] at hO
      unfold b36j1
      exact ⟨⟨_, rfl, ⟨s, rfl, hO.own.rd⟩⟩, hO.le⟩
theorem parse_pr {t : Pat} {st : ByteArray} (hb : t.byt) (hs : bs st = t.pr) (h512 : t.size ≤ 512) (hl : st.size ≤ 8192) : parseR st = (t.nodes 0, 0) := by
  have h := wr_parse (pr_wr t hb).1 (st := st) (by rw [← bs_length, hs]) fun k x hk => by
    rw [bs_cb, hs, List.getD_eq_getElem?_getD, hk]
    rfl
  unfold parseR
  rw [if_neg (by omega), h]
  simp only
  rw [if_neg (by omega)]
theorem law14_b14 (hT : Tab F) (st tt : ByteArray) : b14 st tt (fun r F' => r = .bool true ∧ F.le F') F := by
  unfold b14
  refine (sanity_spec hT).mono ?_
  rintro _ F1 ⟨rfl, l1⟩
  refine ⟨true, rfl, fun _ => ⟨rfl, l1⟩, fun hs => ⟨fun _ => ⟨rfl, l1⟩, fun ht => ?_⟩⟩
  have hw256 := bs_lt st
  have hbyt := lit_byt _ hw256
  have hlg : ∀ v, LgL ((litT (bs st)).nodes 0) v ↔ v = bs st := fun v => by rw [LgL_nodes hbyt, lit_lg]
  have hsize : (litT (bs st)).size ≤ 100 := by
    by_cases h : bs st = []
    · rw [h]; decide
    · rw [lit_size _ h, bs_length]; omega
  have hck := nodes_chk hbyt (by omega)
  refine (literal_spec F1 st (by omega)).mono ?_
  have e1 : litR st = ((litT (bs st)).nodes 0, 0) := by unfold litR; rw [if_neg (by omega)]
  rw [e1]
  rintro _ F2 ⟨⟨_, rfl, s, rfl, hr⟩, l2⟩
  replace hr : RdS F2 s 5 (nflat ((litT (bs st)).nodes 0)) := hr
  replace l2 := le_trans' l1 l2
  refine ⟨s, 0, rfl, ?_⟩
  refine (print_spec hr).mono ?_
  have e2 : printR ((litT (bs st)).nodes 0) = ((litT (bs st)).pr, 0) := by unfold printR; rw [hck, if_neg (by decide), nodes_pat hbyt]
  rw [e2]
  rintro _ F3 ⟨⟨_, rfl, d, rfl, hd⟩, l3⟩
  replace hd : bs d = (litT (bs st)).pr := hd
  replace hr := hr.le l3
  replace l3 := le_trans' l2 l3
  refine ⟨d, 0, rfl, ?_⟩
  refine (parse_spec F3 d).mono ?_
  have hdl : d.size ≤ 8192 := by
    have := pr_length (litT (bs st))
    rw [← bs_length, hd]
    omega
  rw [parse_pr hbyt hd (by omega) hdl]
  rintro _ F4 ⟨⟨_, rfl, s2, rfl, hr2⟩, l4⟩
  replace hr2 : RdS F4 s2 5 (nflat ((litT (bs st)).nodes 0)) := hr2
  replace hr := hr.le l4
  replace l4 := le_trans' l3 l4
  refine ⟨s2, 0, rfl, fun h => absurd rfl h, fun _ => ⟨fun h => absurd rfl h, fun _ => ⟨fun h => absurd rfl h, fun _ => ?_⟩⟩⟩
  refine (same_spec (by rw [Pat.nodes_length]; omega) hr2 hr).mono ?_
  rintro _ F5 ⟨rfl, rfl⟩
  rw [decide_eq_true rfl]
  refine ⟨true, rfl, fun h => (by cases h), fun _ => ?_⟩
  refine (check_spec hr).mono ?_
  rintro _ F6 ⟨rfl, l6⟩
  replace hr := hr.le l6
  replace l6 := le_trans' l4 l6
  rw [hck]
  refine ⟨0, rfl, fun h => absurd rfl h, fun _ => ⟨by omega, ?_⟩⟩
  refine (longest_spec (hT.le l6) hr (st ++ tt) (by rw [ByteArray.size_append]; omega) 0).mono ?_
  rintro r F7 ⟨hlo, l7⟩
  have hlong : r = .tuple #[vi st.size, .bool (decide (0 < st.size))] := by
    rcases hlo with ⟨h, _⟩ | ⟨_, _, _, b, hB, rfl⟩
    · exact absurd ⟨hck, by decide, by omega⟩ h
    · have hz : (st ++ tt).size - Int.toNat 0 = st.size + tt.size := by rw [ByteArray.size_append]; rfl
      rw [hz] at hB
      have hA : ∀ n, n ≤ st.size + tt.size → (LgL ((litT (bs st)).nodes 0) (((bs (st ++ tt)).drop (Int.toNat 0)).take n) ↔ n = st.size) := fun n hn => by
        rw [hlg, show Int.toNat 0 = 0 from rfl, List.drop_zero, bs_append]
        constructor
        · intro h
          have := congrArg List.length h
          rw [List.length_take, List.length_append, bs_length, bs_length] at this
          omega
        · rintro rfl
          rw [List.take_left' (by rw [bs_length])]
      have : Best (fun n => LgL ((litT (bs st)).nodes 0) (((bs (st ++ tt)).drop (Int.toNat 0)).take n)) (st.size + tt.size) st.size :=
        ⟨by omega, .inr ((hA _ (by omega)).2 rfl), fun m h1 h2 h => by have := (hA m h2).1 h; omega⟩
      rw [hB.uniq this]
  subst hlong
  replace hr := hr.le l7
  replace l7 := le_trans' l6 l7
  refine ⟨_, _, rfl, ?_⟩
  refine (shortest_spec (hT.le l7) hr).mono ?_
  rintro r F8 ⟨hsh, l8⟩
  replace hr := hr.le l8
  replace l8 := le_trans' l7 l8
  obtain ⟨u, e, rfl, hu⟩ := hsh.val hck hck
  have mt : ∀ {F' : PH} (x : ByteArray) (hx : x.size ≤ 100) (lF : F8.le F'), Spec prog 23 #[s.v, .string x] F' fun r F'' => r = .bool (decide (bs x = bs st)) ∧ F'.le F'' := fun x hx lF => by
    refine (matches_spec (hT.le (le_trans' l8 lF)) (hr.le lF) x (by omega)).mono ?_
    rintro _ F'' ⟨⟨q, rfl, hq⟩, l⟩
    refine ⟨?_, l⟩
    congr 1
    rw [Bool.eq_iff_iff, hq, hlg, decide_eq_true_eq]
    exact ⟨fun h => h.2, fun h => ⟨hck, h⟩⟩
  refine ⟨u, e, rfl, fun h0 => ?_, fun h0 => ?_⟩
  · -- the empty string
    rw [beq_bs] at h0
    have hb0 : bs st = [] := of_decide_eq_true h0
    have hst0 : st.size = 0 := by rw [← bs_length, hb0]; rfl
    have he : e = 3 := by
      rcases hu with ⟨_, _, rfl⟩ | ⟨h, _⟩
      · rfl
      · exact absurd ((hlg _).1 h.is.2.1 ▸ hb0) h.is.1
    subst he
    refine ⟨fun _ => ⟨fun _ => ?_, fun h => absurd rfl h⟩, fun h => by rw [hst0] at h; cases h⟩
    refine (mt (ByteArray.mk #[]) (by decide) (le_refl' F8)).mono ?_
    rintro _ F9 ⟨rfl, l9⟩
    have : decide (bs (ByteArray.mk #[]) = bs st) = true := by rw [hb0]; rfl
    rw [this]
    refine ⟨true, rfl, fun _ => ?_, fun h => (by cases h)⟩
    refine (mt tt (by omega) l9).mono ?_
    rintro _ F10 ⟨rfl, l10⟩
    have e3 : (decide (bs tt = bs st) == (tt.toList == (ByteArray.mk #[]).toList)) = true := by
      rw [beq_bs, hb0]
      exact beq_self_eq_true _
    refine ⟨_, rfl, ?_⟩
    rw [e3]
    exact ⟨fun _ => ⟨rfl, le_trans' l8 (le_trans' l9 l10)⟩, fun h => (by cases h)⟩
  · rw [beq_bs] at h0
    have hb0 : bs st ≠ [] := of_decide_eq_false h0
    have hst0 : 0 < st.size := by rw [← bs_length]; exact List.length_pos_iff.2 hb0
    have hw : ComW ((litT (bs st)).nodes 0) ((litT (bs st)).nodes 0) (bs st) := ⟨hb0, (hlg _).2 rfl, (hlg _).2 rfl⟩
    obtain ⟨he, hub⟩ : e = 0 ∧ bs u = bs st := by
      rcases hu with ⟨h, _⟩ | ⟨h, he, _⟩
      · exact absurd hw (h _)
      · exact ⟨he, (hlg _).1 h.is.2.1⟩
    subst he
    refine ⟨fun _ => ⟨fun _ => ⟨fun _ => ⟨fun _ => ?_, fun h => ?_⟩, fun h => absurd rfl h⟩, fun h => absurd rfl h⟩, fun h => ?_⟩
    · refine (mt st (by omega) (le_refl' F8)).mono ?_
      rintro _ F9 ⟨rfl, l9⟩
      rw [decide_eq_true rfl]
      refine ⟨true, rfl, fun _ => ?_, fun h => (by cases h)⟩
      refine (mt tt (by omega) l9).mono ?_
      rintro _ F10 ⟨rfl, l10⟩
      have e3 : (decide (bs tt = bs st) == (st.toList == tt.toList)) = true := by
        rw [beq_bs, beq_iff_eq, Bool.eq_iff_iff, decide_eq_true_eq, decide_eq_true_eq]
        exact eq_comm
      refine ⟨_, rfl, ?_⟩
      rw [e3]
      exact ⟨fun _ => ⟨rfl, le_trans' l8 (le_trans' l9 l10)⟩, fun h => (by cases h)⟩
    · rw [beq_bs, hub, decide_eq_true rfl] at h
      cases h
    · have := of_decide_eq_false h
      omega
theorem law14_spec (hT : Tab F) (st tt : ByteArray) : Spec prog 14 #[.string st, .string tt] F fun r F' => r = .bool true ∧ F.le F' := c14 (law14_b14 hT st tt)
end
end Go.Proofs.YtnjcgpihfmklfaaDoor

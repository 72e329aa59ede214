/-
  The diagrams: complement, intersection, union, symmetric difference, choice; constants and conditions.
-/
import Derived.Test.YtafojmoeaneedaaEj
import Derived.Test.YtafojmoeaneedaaGc
namespace Go.Proofs.Ytafojmoeaneedaa
open Go Go.Proofs.Try Tr
set_option maxRecDepth 10000

theorem DV.beside {F G : PH} {x : Nat} {w : Array Value} {d : Dia} (h : DV G w d) (hl : G.le F) (hx : G x = Option.none) : DV (del1 F x) w d :=
  h.le fun y ob hy => by
    rw [del1_of (fun e => by rw [e, hx] at hy; cases hy)]
    exact hl _ _ hy
/-- A call whose result is a diagram and an error, kept out of one block. -/
theorem callDR {f : FuncId} {args : Array Value} {F : PH} {x : Nat} {o : Obj} {y : DR} (h : Spec prog f args (del1 F x) fun r F' => DRV F' r y ∧ (del1 F x).le F') (hx : F x = some o) :
    Spec prog f args F fun r F' => ∃ w, r = .tuple #[.agg w, vi y.2] ∧ (∃ G, DV G w y.1 ∧ G.le F' ∧ G x = none) ∧ F.le F' ∧ F' x = some o :=
  (Spec.avoid h hx).mono fun r F' ⟨G, ⟨⟨w, hr, hw⟩, lg⟩, lG, q, g⟩ => ⟨w, hr, ⟨G, hw, lG, g⟩, le_avoid lg lG q hx, q⟩
theorem callD {f : FuncId} {args : Array Value} {F : PH} {x : Nat} {o : Obj} {d : Dia} (h : Spec prog f args (del1 F x) fun r F' => ∃ w, r = .agg w ∧ DV F' w d ∧ (del1 F x).le F') (hx : F x = some o) :
    Spec prog f args F fun r F' => ∃ w, r = .agg w ∧ (∃ G, DV G w d ∧ G.le F' ∧ G x = none) ∧ F.le F' ∧ F' x = some o :=
  (Spec.avoid h hx).mono fun r F' ⟨G, ⟨w, hr, hw, lg⟩, lG, q, g⟩ => ⟨w, hr, ⟨G, hw, lG, g⟩, le_avoid lg lG q hx, q⟩
/-- The result of such a call is stored and returned. -/
theorem retDR {F G F0 : PH} {b e1 : Nat} {c4 : Array Value} {y : DR} {w : Array Value} (hw : DV G w y.1) (hl : G.le F) (hg : G b = none) (h4 : F b = some (.cells c4 e1 (0, 0))) (hc4 : c4.size = 2) (h0 : F0.le F) (hb : F0 b = none) :
    w.size = 2 ∧ (∀ v ∈ w.toList, storable v) ∧ ∃ c e, F (Addr.mk b 0 none).block = some (.cells c e (0, 0)) ∧ (Addr.mk b 0 none).spot = none ∧ (Addr.mk b 0 none).off + 2 ≤ c.size ∧
      atF (F.set (Addr.mk b 0 none).block (.cells (wr c (Addr.mk b 0 none).off w.toList) e)) fun F => ∃ vres : Array Value, vres.size = 2 ∧ F.row (Addr.mk b 0 none) vres ∧ DRV F (.tuple #[.agg vres, vi y.2]) y ∧ F0.le F :=
  ret2 (K := fun vres F' => DRV F' (.tuple #[.agg vres, vi y.2]) y ∧ F0.le F') hw h4 hc4 ⟨⟨_, rfl, hw.le (le_set_new hl hg)⟩, le_set_new h0 hb⟩
/-- An error is returned. -/
theorem retErr {F F0 : PH} {b e1 : Nat} {c4 : Array Value} {er : Int} (h4 : F b = some (.cells c4 e1 (0, 0))) (hc4 : c4.size = 2) (h0 : F0.le F) (hb : F0 b = none) :
    (#[Value.slice none 0 0, Value.int .i64 0] : Array Value).size = 2 ∧ (∀ v ∈ (#[Value.slice none 0 0, Value.int .i64 0] : Array Value).toList, storable v) ∧ ∃ c e, F (Addr.mk b 0 none).block = some (.cells c e (0, 0)) ∧ (Addr.mk b 0 none).spot = none ∧ (Addr.mk b 0 none).off + 2 ≤ c.size ∧
      atF (F.set (Addr.mk b 0 none).block (.cells (wr c (Addr.mk b 0 none).off (#[Value.slice none 0 0, Value.int .i64 0] : Array Value).toList) e)) fun F => ∃ vres : Array Value, vres.size = 2 ∧ F.row (Addr.mk b 0 none) vres ∧ DRV F (.tuple #[.agg vres, vi er]) (none0, er) ∧ F0.le F :=
  ret2 (K := fun vres F' => DRV F' (.tuple #[.agg vres, vi er]) (none0, er) ∧ F0.le F') (DV.none F) h4 hc4 ⟨⟨_, rfl, DV.none _⟩, le_set_new h0 hb⟩

abbrev oAnd : Op2 := fun x y => x && y
abbrev oOr : Op2 := fun x y => x || y
abbrev oXor : Op2 := fun x y => !(x == y)
theorem cb61 : callableB prog 61 = true := by kernel_rfl
theorem cb62 : callableB prog 62 = true := by kernel_rfl
theorem cb66 : callableB prog 66 = true := by kernel_rfl
theorem cb67 : callableB prog 67 = true := by kernel_rfl
theorem cb71 : callableB prog 71 = true := by kernel_rfl
theorem cb73 : callableB prog 73 = true := by kernel_rfl
theorem op61 (F0 : PH) : OpV2 F0 (.func (.func 61) #[] #[]) oAnd := ⟨61, #[], #[], rfl, cb61, fun x y F _ => by
  refine c61 ?_
  unfold b61
  exact ⟨fun h => ⟨by simp [h], PH.le_rfl⟩, fun h => ⟨by simp [h], PH.le_rfl⟩⟩⟩
theorem op62 (F0 : PH) : OpV2 F0 (.func (.func 62) #[] #[]) oOr := ⟨62, #[], #[], rfl, cb62, fun x y F _ => by
  refine c62 ?_
  unfold b62
  exact ⟨fun h => ⟨by simp [h], PH.le_rfl⟩, fun h => ⟨by simp [h], PH.le_rfl⟩⟩⟩
theorem op66 (F0 : PH) : OpV2 F0 (.func (.func 66) #[] #[]) (fun x _ => !x) := ⟨66, #[], #[], rfl, cb66, fun x y F _ => by
  refine c66 ?_
  unfold b66
  exact ⟨rfl, PH.le_rfl⟩⟩
theorem op67 (F0 : PH) : OpV2 F0 (.func (.func 67) #[] #[]) oXor := ⟨67, #[], #[], rfl, cb67, fun x y F _ => by
  refine c67 ?_
  unfold b67
  exact ⟨rfl, PH.le_rfl⟩⟩
abbrev oCho : Op3 := fun x y z => x && y || !x && z
theorem op71 (F0 : PH) : OpV F0 (.func (.func 71) #[] #[]) oCho := ⟨71, #[], #[], rfl, cb71, fun x y z F _ => by
  refine c71 ?_
  unfold b71
  refine ⟨fun h => ⟨fun h2 => ⟨?_, PH.le_rfl⟩, fun h2 => ⟨?_, PH.le_rfl⟩⟩, fun h => ⟨?_, PH.le_rfl⟩⟩
  · simp [h, h2, oCho]
  · simp [h, h2, oCho]
  · simp [h, oCho]⟩
theorem op73 (F0 : PH) : OpV F0 (.func (.func 73) #[] #[]) (fun x y _ => x || y) := ⟨73, #[], #[], rfl, cb73, fun x y z F _ => by
  refine c73 ?_
  unfold b73
  exact ⟨fun h => ⟨by simp [h], PH.le_rfl⟩, fun h => ⟨by simp [h], PH.le_rfl⟩⟩⟩

section
variable {F : PH} {v w u : Array Value} {a b c : Dia}
theorem and_spec (ha : DV F v a) (hb : DV F w b) : Spec prog 19 #[.agg v, .agg w] F fun r F' => DRV F' r (bin oAnd a b) ∧ F.le F' := by
  refine c19 ?_
  unfold b19
  intro b2 hb2
  refine atI ?_
  have l2 := le_set_fresh (.cells v 28) hb2
  have q2 := set_eq F b2 (.cells v 28)
  generalize F.set b2 (.cells v 28) = F2 at *
  intro b3 hb3
  refine atI ?_
  have lx := le_set_fresh (.cells w 28) hb3
  have q3 := set_eq F2 b3 (.cells w 28)
  replace q2 := lx _ _ q2
  have l3 := l2.trans lx
  clear lx
  generalize F2.set b3 (.cells w 28) = F3 at *
  intro b4 hb4
  refine atI ?_
  have f4 : F b4 = none := le_none l3 hb4
  have lx := le_set_fresh (.cells #[Value.slice none 0 0, Value.int .i64 0] 28) hb4
  have q4 := set_eq F3 b4 (.cells #[Value.slice none 0 0, Value.int .i64 0] 28)
  replace q2 := lx _ _ q2
  replace q3 := lx _ _ q3
  have l4 := l3.trans lx
  clear lx
  generalize F3.set b4 (.cells #[Value.slice none 0 0, Value.int .i64 0] 28) = F4 at *
  refine ⟨v, ha.size, row_whole q2, w, hb.size, row_whole q3, ?_⟩
  have ld := le_del1 l4 f4
  refine (callDR (binary_spec (ha.le ld) (hb.le ld) (op61 _)) q4).mono ?_
  rintro _ F5 ⟨z, rfl, ⟨G, hz, lG, gG⟩, l5, q5⟩
  exact ⟨_, _, rfl, retDR hz lG gG q5 rfl (l4.trans l5) f4⟩
theorem or_spec (ha : DV F v a) (hb : DV F w b) : Spec prog 22 #[.agg v, .agg w] F fun r F' => DRV F' r (bin oOr a b) ∧ F.le F' := by
  refine c22 ?_
  unfold b22
  intro b2 hb2
  refine atI ?_
  have l2 := le_set_fresh (.cells v 28) hb2
  have q2 := set_eq F b2 (.cells v 28)
  generalize F.set b2 (.cells v 28) = F2 at *
  intro b3 hb3
  refine atI ?_
  have lx := le_set_fresh (.cells w 28) hb3
  have q3 := set_eq F2 b3 (.cells w 28)
  replace q2 := lx _ _ q2
  have l3 := l2.trans lx
  clear lx
  generalize F2.set b3 (.cells w 28) = F3 at *
  intro b4 hb4
  refine atI ?_
  have f4 : F b4 = none := le_none l3 hb4
  have lx := le_set_fresh (.cells #[Value.slice none 0 0, Value.int .i64 0] 28) hb4
  have q4 := set_eq F3 b4 (.cells #[Value.slice none 0 0, Value.int .i64 0] 28)
  replace q2 := lx _ _ q2
  replace q3 := lx _ _ q3
  have l4 := l3.trans lx
  clear lx
  generalize F3.set b4 (.cells #[Value.slice none 0 0, Value.int .i64 0] 28) = F4 at *
  refine ⟨v, ha.size, row_whole q2, w, hb.size, row_whole q3, ?_⟩
  have ld := le_del1 l4 f4
  refine (callDR (binary_spec (ha.le ld) (hb.le ld) (op62 _)) q4).mono ?_
  rintro _ F5 ⟨z, rfl, ⟨G, hz, lG, gG⟩, l5, q5⟩
  exact ⟨_, _, rfl, retDR hz lG gG q5 rfl (l4.trans l5) f4⟩
theorem xor_spec (ha : DV F v a) (hb : DV F w b) : Spec prog 26 #[.agg v, .agg w] F fun r F' => DRV F' r (bin oXor a b) ∧ F.le F' := by
  refine c26 ?_
  unfold b26
  intro b2 hb2
  refine atI ?_
  have l2 := le_set_fresh (.cells v 28) hb2
  have q2 := set_eq F b2 (.cells v 28)
  generalize F.set b2 (.cells v 28) = F2 at *
  intro b3 hb3
  refine atI ?_
  have lx := le_set_fresh (.cells w 28) hb3
  have q3 := set_eq F2 b3 (.cells w 28)
  replace q2 := lx _ _ q2
  have l3 := l2.trans lx
  clear lx
  generalize F2.set b3 (.cells w 28) = F3 at *
  intro b4 hb4
  refine atI ?_
  have f4 : F b4 = none := le_none l3 hb4
  have lx := le_set_fresh (.cells #[Value.slice none 0 0, Value.int .i64 0] 28) hb4
  have q4 := set_eq F3 b4 (.cells #[Value.slice none 0 0, Value.int .i64 0] 28)
  replace q2 := lx _ _ q2
  replace q3 := lx _ _ q3
  have l4 := l3.trans lx
  clear lx
  generalize F3.set b4 (.cells #[Value.slice none 0 0, Value.int .i64 0] 28) = F4 at *
  refine ⟨v, ha.size, row_whole q2, w, hb.size, row_whole q3, ?_⟩
  have ld := le_del1 l4 f4
  refine (callDR (binary_spec (ha.le ld) (hb.le ld) (op67 _)) q4).mono ?_
  rintro _ F5 ⟨z, rfl, ⟨G, hz, lG, gG⟩, l5, q5⟩
  exact ⟨_, _, rfl, retDR hz lG gG q5 rfl (l4.trans l5) f4⟩
theorem not_spec (ha : DV F v a) : Spec prog 25 #[.agg v] F fun r F' => DRV F' r (bin (fun x _ => !x) a none0) ∧ F.le F' := by
  refine c25 ?_
  unfold b25
  intro b2 hb2
  refine atI ?_
  have l2 := le_set_fresh (.cells v 28) hb2
  have q2 := set_eq F b2 (.cells v 28)
  generalize F.set b2 (.cells v 28) = F3 at *
  intro b4 hb4
  refine atI ?_
  have f4 : F b4 = none := le_none l2 hb4
  have lx := le_set_fresh (.cells #[Value.slice none 0 0, Value.int .i64 0] 28) hb4
  have q4 := set_eq F3 b4 (.cells #[Value.slice none 0 0, Value.int .i64 0] 28)
  replace q2 := lx _ _ q2
  have l4 := l2.trans lx
  clear lx
  generalize F3.set b4 (.cells #[Value.slice none 0 0, Value.int .i64 0] 28) = F4 at *
  refine ⟨v, ha.size, row_whole q2, ?_⟩
  have ld := le_del1 l4 f4
  refine (callDR (binary_spec (ha.le ld) (DV.none _) (op66 _)) q4).mono ?_
  rintro _ F5 ⟨z, rfl, ⟨G, hz, lG, gG⟩, l5, q5⟩
  exact ⟨_, _, rfl, retDR hz lG gG q5 rfl (l4.trans l5) f4⟩
theorem chkL3 {a b c : Dia} (h : ¬ chkL [c, a, b] ≠ 0) : chk c = 0 ∧ chk a = 0 ∧ chk b = 0 := by
  unfold chkL at h
  split at h
  · exact absurd (by assumption) h
  · rename_i hc
    exact ⟨by omega, chkL2 h⟩
theorem choose_spec (hc : DV F u c) (ha : DV F v a) (hb : DV F w b) : Spec prog 27 #[.agg u, .agg v, .agg w] F fun r F' => DRV F' r (cho c a b) ∧ F.le F' := by
  have hc' := hc
  have ha' := ha
  have hb' := hb
  obtain ⟨sc, rfl, hrc⟩ := hc
  obtain ⟨sa, rfl, hra⟩ := ha
  obtain ⟨sb, rfl, hrb⟩ := hb
  refine c27 ?_
  unfold b27
  intro b3 hb3
  refine atI ?_
  have l3 := le_set_fresh (.cells #[sc.v, vi c.2] 28) hb3
  have q3 := set_eq F b3 (.cells #[sc.v, vi c.2] 28)
  generalize F.set b3 (.cells #[sc.v, vi c.2] 28) = F3 at *
  intro b4 hb4
  refine atI ?_
  have lx := le_set_fresh (.cells #[sa.v, vi a.2] 28) hb4
  have q4 := set_eq F3 b4 (.cells #[sa.v, vi a.2] 28)
  replace q3 := lx _ _ q3
  have l4 := l3.trans lx
  clear lx
  generalize F3.set b4 (.cells #[sa.v, vi a.2] 28) = F4 at *
  intro b5 hb5
  refine atI ?_
  have lx := le_set_fresh (.cells #[sb.v, vi b.2] 28) hb5
  have q5 := set_eq F4 b5 (.cells #[sb.v, vi b.2] 28)
  replace q3 := lx _ _ q3
  replace q4 := lx _ _ q4
  have l5 := l4.trans lx
  clear lx
  generalize F4.set b5 (.cells #[sb.v, vi b.2] 28) = F5 at *
  intro b6 hb6
  refine atI ?_
  have f6 : F b6 = none := le_none l5 hb6
  have lx := le_set_fresh (.cells #[Value.slice none 0 0, Value.int .i64 0] 28) hb6
  have q6 := set_eq F5 b6 (.cells #[Value.slice none 0 0, Value.int .i64 0] 28)
  replace q3 := lx _ _ q3
  replace q4 := lx _ _ q4
  replace q5 := lx _ _ q5
  have l6 := l5.trans lx
  clear lx
  generalize F5.set b6 (.cells #[Value.slice none 0 0, Value.int .i64 0] 28) = F6 at *
  refine ⟨#[sc.v, vi c.2], rfl, row_whole q3, #[sa.v, vi a.2], rfl, row_whole q4, #[sb.v, vi b.2], rfl, row_whole q5, rfl, rfl, rfl, fun b11 hb11 => ?_⟩
  refine atI ?_
  have e11 : wr (wr (wr (#[Value.slice none 0 0, Value.int .i64 0, Value.slice none 0 0, Value.int .i64 0, Value.slice none 0 0, Value.int .i64 0] : Array Value) 0 (#[sc.v, vi c.2] : Array Value).toList) 2 (#[sa.v, vi a.2] : Array Value).toList) 4 (#[sb.v, vi b.2] : Array Value).toList = #[sc.v, vi c.2, sa.v, vi a.2, sb.v, vi b.2] := rfl
  rw [e11]
  have lx := le_set_fresh (.cells #[sc.v, vi c.2, sa.v, vi a.2, sb.v, vi b.2] 28) hb11
  have q11 := set_eq F6 b11 (.cells #[sc.v, vi c.2, sa.v, vi a.2, sb.v, vi b.2] 28)
  replace q3 := lx _ _ q3
  replace q4 := lx _ _ q4
  replace q5 := lx _ _ q5
  replace q6 := lx _ _ q6
  have l11 := l6.trans lx
  clear lx
  generalize F6.set b11 (.cells #[sc.v, vi c.2, sa.v, vi a.2, sb.v, vi b.2] 28) = F7 at *
  refine (checkL_spec (F := F7) (x := b11) (dd := [c, a, b]) (n := 3) rfl (by omega) (fun i hi => ?_)).mono ?_
  · have row : ∀ (j : Nat) (s' : Sl) (r : Int), (#[sc.v, vi c.2, sa.v, vi a.2, sb.v, vi b.2] : Array Value)[j]? = some s'.v → (#[sc.v, vi c.2, sa.v, vi a.2, sb.v, vi b.2] : Array Value)[j + 1]? = some (vi r) → F7.row ⟨b11, j, none⟩ #[s'.v, vi r] := fun j s' r h1 h2 i hi => by
      simp only [add_mk]
      rw [cell_eq q11]
      match i, hi with
      | 0, _ => simpa using h1
      | 1, _ => simpa using h2
    match i, hi with
    | 0, _ => exact ⟨_, row 0 sc _ rfl rfl, hc'.le l11⟩
    | 1, _ => exact ⟨_, row 2 sa _ rfl rfl, ha'.le l11⟩
    | 2, _ => exact ⟨_, row 4 sb _ rfl rfl, hb'.le l11⟩
  rintro _ F8 ⟨rfl, l8⟩
  replace q3 := l8 _ _ q3
  replace q4 := l8 _ _ q4
  replace q5 := l8 _ _ q5
  replace q6 := l8 _ _ q6
  replace l8 := l11.trans l8
  refine ⟨_, rfl, fun h => ?_, fun h => ?_⟩
  · have e : cho c a b = (none0, chkL [c, a, b]) := by unfold cho; rw [if_pos h]
    rw [e]
    exact retErr q6 rfl l8 f6
  · obtain ⟨hcc, hca, hcb⟩ := chkL3 h
    obtain ⟨kc, ec, lc⟩ := chk0 hcc
    obtain ⟨ka, ea, la⟩ := chk0 hca
    obtain ⟨kb, eb, lb⟩ := chk0 hcb
    have zc := subs_tre hcc
    have za := subs_tre hca
    have zb := subs_tre hcb
    have hlen := ap_length (o := oCho) kc ka kb
    have hpf := prod_fit zc za zb
    refine ⟨#[sc.v, vi c.2], rfl, row_whole q3, #[sa.v, vi a.2], rfl, row_whole q4, #[sb.v, vi b.2], rfl, row_whole q5, rfl, rfl, rfl, ?_⟩
    have hcho : cho c a b = lim (dia (ap oCho (tre c) (tre a) (tre b))) := by unfold cho; rw [if_neg h]
    rw [hcho]
    have ld : F.le (del1 F8 b6) := le_del1 l8 f6
    have hcm := combine_spec (F := del1 F8 b6) (s0 := sc) (s1 := sa) (s2 := sb) (t0 := tre c) (t1 := tre a) (t2 := tre b) (opv := .func (.func 71) #[] #[]) (o := oCho)
      (by rw [← ec]; exact hrc.le ld) (by rw [← ea]; exact hra.le ld) (by rw [← eb]; exact hrb.le ld) kc ka kb (by omega) (by omega) (by omega) (by omega) (op71 _)
    rw [← ea, ← eb, ← ec] at hcm
    refine (callD hcm q6).mono ?_
    rintro _ F9 ⟨z, rfl, ⟨G, hz, lG, gG⟩, l9, q9⟩
    refine ⟨_, rfl, ?_⟩
    refine (callDR (limited_spec (hz.beside lG gG)) q9).mono ?_
    rintro _ F10 ⟨z', rfl, ⟨G', hz', lG', gG'⟩, l10, q10⟩
    exact ⟨_, _, rfl, retDR hz' lG' gG' q10 rfl (l8.trans (l9.trans l10)) f6⟩

/-! constants and conditions -/
theorem dia_leaf (b : Bool) : dia (leaf b) = ([], if b then 1 else 0) := by cases b <;> rfl
abbrev tv (v : Nat) : Tr := node v (leaf false) (leaf true)
theorem dia_tv (v : Nat) : dia (tv v) = ([⟨(v : Int), 0, 1⟩], 2) := by
  have e : subs (tv v) = [tv v] := by simp [subs, vis, tv]
  unfold dia
  rw [e]
  simp [brs, br, num, tv]
theorem ok_tv {v : Nat} (h : v < 64) : (tv v).ok := ⟨h, h, h, by simp, trivial, trivial⟩
theorem constant_spec (x : Bool) : Spec prog 17 #[.bool x] F fun r F' => ∃ w, r = .agg w ∧ DV F' w (dia (leaf x)) ∧ F.le F' := by
  refine c17 ?_
  unfold b17
  intro b2 hb2
  refine atI ?_
  have l2 := le_set_fresh (.cells #[Value.slice none 0 0, Value.int .i64 0] 28) hb2
  have q2 := set_eq F b2 (.cells #[Value.slice none 0 0, Value.int .i64 0] 28)
  refine ⟨fun h => ?_, fun h => ?_⟩
  · subst h
    have hd : ∀ G : PH, DV G #[Value.slice none 0 0, Value.int .i64 1] (dia (leaf true)) := fun G => ⟨Sl.nil, rfl, RdS.nil G 3⟩
    exact ret2 (K := fun vres F' => ∃ w, Value.agg vres = .agg w ∧ DV F' w (dia (leaf true)) ∧ F.le F') (hd F) q2 rfl ⟨_, rfl, hd _, le_set_new l2 hb2⟩
  · subst h
    have hd : ∀ G : PH, DV G #[Value.slice none 0 0, Value.int .i64 0] (dia (leaf false)) := fun G => ⟨Sl.nil, rfl, RdS.nil G 3⟩
    exact ret2 (K := fun vres F' => ∃ w, Value.agg vres = .agg w ∧ DV F' w (dia (leaf false)) ∧ F.le F') (hd F) q2 rfl ⟨_, rfl, hd _, le_set_new l2 hb2⟩
def varD (v : Int) : DR := if v < 0 ∨ 63 < v then (none0, 1) else (dia (tv v.toNat), 0)
theorem var_spec (x : Int) : Spec prog 30 #[vi x] F fun r F' => DRV F' r (varD x) ∧ F.le F' := by
  refine c30 ?_
  unfold b30
  intro b2 hb2
  refine atI ?_
  have l2 := le_set_fresh (.cells #[Value.slice none 0 0, Value.int .i64 0] 28) hb2
  have q2 := set_eq F b2 (.cells #[Value.slice none 0 0, Value.int .i64 0] 28)
  generalize F.set b2 (.cells #[Value.slice none 0 0, Value.int .i64 0] 28) = F2 at *
  have bad : x < 0 ∨ 63 < x → b30j1 x b2 true (fun r F' => DRV F' r (varD x) ∧ F.le F') F2 := fun h => by
    unfold b30j1
    refine ⟨fun _ => ?_, fun hc => by cases hc⟩
    have e : varD x = (none0, 1) := by unfold varD; rw [if_pos h]
    rw [e]
    exact retErr q2 rfl l2 hb2
  refine ⟨fun h => bad (.inl h), fun h => ?_⟩
  by_cases h2 : 63 < x
  · rw [decide_eq_true h2]
    exact bad (.inr h2)
  · rw [decide_eq_false h2]
    unfold b30j1
    refine ⟨fun hc => (by cases hc), fun _ => ⟨rfl, fun b13 hb13 => ?_⟩⟩
    refine atI ?_
    have e : varD x = (dia (tv x.toNat), 0) := by unfold varD; rw [if_neg (by omega)]
    have hx : ((x.toNat : Nat) : Int) = x := by omega
    have lx := le_set_fresh (.cells #[vi x, vi 0, vi 1] 72) hb13
    have q13 := set_eq F2 b13 (.cells #[vi x, vi 0, vi 1] 72)
    have n : b13 ≠ b2 := (ne_of_fresh hb13 q2).symm
    replace q2 := lx _ _ q2
    have l3 := l2.trans lx
    rw [e]
    have hd : ∀ G : PH, G b13 = some (.cells #[vi x, vi 0, vi 1] 72) → DV G #[(Sl.mk (some ⟨b13, 0, none⟩) 1 1).v, vi 2] (dia (tv x.toNat)) := fun G hG => by
      rw [dia_tv, hx]
      exact ⟨_, rfl, RdS.new hG rfl rfl (Nat.le_refl _)⟩
    exact ret2 (K := fun vres F' => DRV F' (.tuple #[.agg vres, vi 0]) (dia (tv x.toNat), 0) ∧ F.le F') (hd _ q13) q2 rfl ⟨⟨_, rfl, hd _ (by rw [set_ne _ _ n]; exact q13)⟩, le_set_new l3 hb2⟩
end
end Go.Proofs.Ytafojmoeaneedaa

/-
  The diagrams: Restrict, Exists, Holds.
-/
import Derived.Test.YtafojmoeaneedaaEj
import Derived.Test.YtafojmoeaneedaaGc
namespace Go.Proofs.Ytafojmoeaneedaa
open Go Go.Proofs.Try Tr
set_option maxRecDepth 10000

theorem DV.beside {F G : PH} {x : Nat} {w : Array Value} {d : Dia} (h : DV G w d) (hl : G.le F) (hx : G x = Option.none) : DV (del1 F x) w d :=
  h.le fun y ob hy => by
    rw [del1_of (fun e => by rw [e, hx] at hy; cases hy)]
    exact hl _ _ hy
/-- A call whose result is a diagram and an error, kept out of one block. -/
theorem callDR {f : FuncId} {args : Array Value} {F : PH} {x : Nat} {o : Obj} {y : DR} (h : Spec prog f args (del1 F x) fun r F' => DRV F' r y ∧ (del1 F x).le F') (hx : F x = some o) :
    Spec prog f args F fun r F' => ∃ w, r = .tuple #[.agg w, vi y.2] ∧ (∃ G, DV G w y.1 ∧ G.le F' ∧ G x = none) ∧ F.le F' ∧ F' x = some o :=
  (Spec.avoid h hx).mono fun r F' ⟨G, ⟨⟨w, hr, hw⟩, lg⟩, lG, q, g⟩ => ⟨w, hr, ⟨G, hw, lG, g⟩, le_avoid lg lG q hx, q⟩
theorem callD {f : FuncId} {args : Array Value} {F : PH} {x : Nat} {o : Obj} {d : Dia} (h : Spec prog f args (del1 F x) fun r F' => ∃ w, r = .agg w ∧ DV F' w d ∧ (del1 F x).le F') (hx : F x = some o) :
    Spec prog f args F fun r F' => ∃ w, r = .agg w ∧ (∃ G, DV G w d ∧ G.le F' ∧ G x = none) ∧ F.le F' ∧ F' x = some o :=
  (Spec.avoid h hx).mono fun r F' ⟨G, ⟨w, hr, hw, lg⟩, lG, q, g⟩ => ⟨w, hr, ⟨G, hw, lG, g⟩, le_avoid lg lG q hx, q⟩
/-- The result of such a call is stored and returned. -/
theorem retDR {F G F0 : PH} {b e1 : Nat} {c4 : Array Value} {y : DR} {w : Array Value} (hw : DV G w y.1) (hl : G.le F) (hg : G b = none) (h4 : F b = some (.cells c4 e1 (0, 0))) (hc4 : c4.size = 2) (h0 : F0.le F) (hb : F0 b = none) :
    w.size = 2 ∧ (∀ v ∈ w.toList, storable v) ∧ ∃ c e, F (Addr.mk b 0 none).block = some (.cells c e (0, 0)) ∧ (Addr.mk b 0 none).spot = none ∧ (Addr.mk b 0 none).off + 2 ≤ c.size ∧
      atF (F.set (Addr.mk b 0 none).block (.cells (wr c (Addr.mk b 0 none).off w.toList) e)) fun F => ∃ vres : Array Value, vres.size = 2 ∧ F.row (Addr.mk b 0 none) vres ∧ DRV F (.tuple #[.agg vres, vi y.2]) y ∧ F0.le F :=
  ret2 (K := fun vres F' => DRV F' (.tuple #[.agg vres, vi y.2]) y ∧ F0.le F') hw h4 hc4 ⟨⟨_, rfl, hw.le (le_set_new hl hg)⟩, le_set_new h0 hb⟩
/-- An error is returned. -/
theorem retErr {F F0 : PH} {b e1 : Nat} {c4 : Array Value} {er : Int} (h4 : F b = some (.cells c4 e1 (0, 0))) (hc4 : c4.size = 2) (h0 : F0.le F) (hb : F0 b = none) :
    (#[Value.slice none 0 0, Value.int .i64 0] : Array Value).size = 2 ∧ (∀ v ∈ (#[Value.slice none 0 0, Value.int .i64 0] : Array Value).toList, storable v) ∧ ∃ c e, F (Addr.mk b 0 none).block = some (.cells c e (0, 0)) ∧ (Addr.mk b 0 none).spot = none ∧ (Addr.mk b 0 none).off + 2 ≤ c.size ∧
      atF (F.set (Addr.mk b 0 none).block (.cells (wr c (Addr.mk b 0 none).off (#[Value.slice none 0 0, Value.int .i64 0] : Array Value).toList) e)) fun F => ∃ vres : Array Value, vres.size = 2 ∧ F.row (Addr.mk b 0 none) vres ∧ DRV F (.tuple #[.agg vres, vi er]) (none0, er) ∧ F0.le F :=
  ret2 (K := fun vres F' => DRV F' (.tuple #[.agg vres, vi er]) (none0, er) ∧ F0.le F') (DV.none F) h4 hc4 ⟨⟨_, rfl, DV.none _⟩, le_set_new h0 hb⟩

abbrev oAnd : Op2 := fun x y => x && y
abbrev oOr : Op2 := fun x y => x || y
abbrev oXor : Op2 := fun x y => !(x == y)
theorem cb61 : callableB prog 61 = true := by kernel_rfl
theorem cb62 : callableB prog 62 = true := by kernel_rfl
theorem cb66 : callableB prog 66 = true := by kernel_rfl
theorem cb67 : callableB prog 67 = true := by kernel_rfl
theorem cb71 : callableB prog 71 = true := by kernel_rfl
theorem cb73 : callableB prog 73 = true := by kernel_rfl
theorem op61 (F0 : PH) : OpV2 F0 (.func (.func 61) #[] #[]) oAnd := ⟨61, #[], #[], rfl, cb61, fun x y F _ => by
  refine c61 ?_
  unfold b61
  exact ⟨fun h => ⟨by simp [h], PH.le_rfl⟩, fun h => ⟨by simp [h], PH.le_rfl⟩⟩⟩
theorem op62 (F0 : PH) : OpV2 F0 (.func (.func 62) #[] #[]) oOr := ⟨62, #[], #[], rfl, cb62, fun x y F _ => by
  refine c62 ?_
  unfold b62
  exact ⟨fun h => ⟨by simp [h], PH.le_rfl⟩, fun h => ⟨by simp [h], PH.le_rfl⟩⟩⟩
theorem op66 (F0 : PH) : OpV2 F0 (.func (.func 66) #[] #[]) (fun x _ => !x) := ⟨66, #[], #[], rfl, cb66, fun x y F _ => by
  refine c66 ?_
  unfold b66
  exact ⟨rfl, PH.le_rfl⟩⟩
theorem op67 (F0 : PH) : OpV2 F0 (.func (.func 67) #[] #[]) oXor := ⟨67, #[], #[], rfl, cb67, fun x y F _ => by
  refine c67 ?_
  unfold b67
  exact ⟨rfl, PH.le_rfl⟩⟩
abbrev oCho : Op3 := fun x y z => x && y || !x && z
theorem op71 (F0 : PH) : OpV F0 (.func (.func 71) #[] #[]) oCho := ⟨71, #[], #[], rfl, cb71, fun x y z F _ => by
  refine c71 ?_
  unfold b71
  refine ⟨fun h => ⟨fun h2 => ⟨?_, PH.le_rfl⟩, fun h2 => ⟨?_, PH.le_rfl⟩⟩, fun h => ⟨?_, PH.le_rfl⟩⟩
  · simp [h, h2, oCho]
  · simp [h, h2, oCho]
  · simp [h, oCho]⟩
theorem op73 (F0 : PH) : OpV F0 (.func (.func 73) #[] #[]) (fun x y _ => x || y) := ⟨73, #[], #[], rfl, cb73, fun x y z F _ => by
  refine c73 ?_
  unfold b73
  exact ⟨fun h => ⟨by simp [h], PH.le_rfl⟩, fun h => ⟨by simp [h], PH.le_rfl⟩⟩⟩

section
variable {F : PH} {v w u : Array Value} {a b c : Dia}
theorem and_spec (ha : DV F v a) (hb : DV F w b) : Spec prog 19 #[.agg v, .agg w] F fun r F' => DRV F' r (bin oAnd a b) ∧ F.le F' := by
  refine c19 ?_
  unfold b19
  intro b2 hb2
  refine atI ?_
  have l2 := le_set_fresh (.cells v 28) hb2
  have q2 := set_eq F b2 (.cells v 28)
  generalize F.set b2 (.cells v 28) = F2 at *
  intro b3 hb3
  refine atI ?_
  have lx := le_set_fresh (.cells w 28) hb3
  have q3 := set_eq F2 b3 (.cells w 28)
  replace q2 := lx _ _ q2
  have l3 := l2.trans lx
  clear lx
  generalize F2.set b3 (.cells w 28) = F3 at *
  intro b4 hb4
  refine atI ?_
  have f4 : F b4 = none := le_none l3 hb4
  have lx := le_set_fresh (.cells #[Value.slice none 0 0, Value.int .i64 0] 28) hb4
  have q4 := set_eq F3 b4 (.cells #[Value.slice none 0 0, Value.int .i64 0] 28)
  replace q2 := lx _ _ q2
  replace q3 := lx _ _ q3
  have l4 := l3.trans lx
  clear lx
  generalize F3.set b4 (.cells #[Value.slice none 0 0, Value.int .i64 0] 28) = F4 at *
  refine ⟨v, ha.size, row_whole q2, w, hb.size, row_whole q3, ?_⟩
  have ld := le_del1 l4 f4
  refine (callDR (binary_spec (ha.le ld) (hb.le ld) (op61 _)) q4).mono ?_
  rintro _ F5 ⟨z, rfl, ⟨G, hz, lG, gG⟩, l5, q5⟩
  exact ⟨_, _, rfl, retDR hz lG gG q5 rfl (l4.trans l5) f4⟩
theorem or_spec (ha : DV F v a) (hb : DV F w b) : Spec prog 22 #[.agg v, .agg w] F fun r F' => DRV F' r (bin oOr a b) ∧ F.le F' := by
  refine c22 ?_
  unfold b22
  intro b2 hb2
  refine atI ?_
  have l2 := le_set_fresh (.cells v 28) hb2
  have q2 := set_eq F b2 (.cells v 28)
  generalize F.set b2 (.cells v 28) = F2 at *
  intro b3 hb3
  refine atI ?_
  have lx := le_set_fresh (.cells w 28) hb3
  have q3 := set_eq F2 b3 (.cells w 28)
  replace q2 := lx _ _ q2
  have l3 := l2.trans lx
  clear lx
  generalize F2.set b3 (.cells w 28) = F3 at *
  intro b4 hb4
  refine atI ?_
  have f4 : F b4 = none := le_none l3 hb4
  have lx := le_set_fresh (.cells #[Value.slice none 0 0, Value.int .i64 0] 28) hb4
  have q4 := set_eq F3 b4 (.cells #[Value.slice none 0 0, Value.int .i64 0] 28)
  replace q2 := lx _ _ q2
  replace q3 := lx _ _ q3
  have l4 := l3.trans lx
  clear lx
  generalize F3.set b4 (.cells #[Value.slice none 0 0, Value.int .i64 0] 28) = F4 at *
  refine ⟨v, ha.size, row_whole q2, w, hb.size, row_whole q3, ?_⟩
  have ld := le_del1 l4 f4
  refine (callDR (binary_spec (ha.le ld) (hb.le ld) (op62 _)) q4).mono ?_
  rintro _ F5 ⟨z, rfl, ⟨G, hz, lG, gG⟩, l5, q5⟩
  exact ⟨_, _, rfl, retDR hz lG gG q5 rfl (l4.trans l5) f4⟩
theorem xor_spec (ha : DV F v a) (hb : DV F w b) : Spec prog 26 #[.agg v, .agg w] F fun r F' => DRV F' r (bin oXor a b) ∧ F.le F' := by
  refine c26 ?_
  unfold b26
  intro b2 hb2
  refine atI ?_
  have l2 := le_set_fresh (.cells v 28) hb2
  have q2 := set_eq F b2 (.cells v 28)
  generalize F.set b2 (.cells v 28) = F2 at *
  intro b3 hb3
  refine atI ?_
  have lx := le_set_fresh (.cells w 28) hb3
  have q3 := set_eq F2 b3 (.cells w 28)
  replace q2 := lx _ _ q2
  have l3 := l2.trans lx
  clear lx
  generalize F2.set b3 (.cells w 28) = F3 at *
  intro b4 hb4
  refine atI ?_
  have f4 : F b4 = none := le_none l3 hb4
  have lx := le_set_fresh (.cells #[Value.slice none 0 0, Value.int .i64 0] 28) hb4
  have q4 := set_eq F3 b4 (.cells #[Value.slice none 0 0, Value.int .i64 0] 28)
  replace q2 := lx _ _ q2
  replace q3 := lx _ _ q3
  have l4 := l3.trans lx
  clear lx
  generalize F3.set b4 (.cells #[Value.slice none 0 0, Value.int .i64 0] 28) = F4 at *
  refine ⟨v, ha.size, row_whole q2, w, hb.size, row_whole q3, ?_⟩
  have ld := le_del1 l4 f4
  refine (callDR (binary_spec (ha.le ld) (hb.le ld) (op67 _)) q4).mono ?_
  rintro _ F5 ⟨z, rfl, ⟨G, hz, lG, gG⟩, l5, q5⟩
  exact ⟨_, _, rfl, retDR hz lG gG q5 rfl (l4.trans l5) f4⟩
theorem not_spec (ha : DV F v a) : Spec prog 25 #[.agg v] F fun r F' => DRV F' r (bin (fun x _ => !x) a none0) ∧ F.le F' := by
  refine c25 ?_
  unfold b25
  intro b2 hb2
  refine atI ?_
  have l2 := le_set_fresh (.cells v 28) hb2
  have q2 := set_eq F b2 (.cells v 28)
  generalize F.set b2 (.cells v 28) = F3 at *
  intro b4 hb4
  refine atI ?_
  have f4 : F b4 = none := le_none l2 hb4
  have lx := le_set_fresh (.cells #[Value.slice none 0 0, Value.int .i64 0] 28) hb4
  have q4 := set_eq F3 b4 (.cells #[Value.slice none 0 0, Value.int .i64 0] 28)
  replace q2 := lx _ _ q2
  have l4 := l2.trans lx
  clear lx
  generalize F3.set b4 (.cells #[Value.slice none 0 0, Value.int .i64 0] 28) = F4 at *
  refine ⟨v, ha.size, row_whole q2, ?_⟩
  have ld := le_del1 l4 f4
  refine (callDR (binary_spec (ha.le ld) (DV.none _) (op66 _)) q4).mono ?_
  rintro _ F5 ⟨z, rfl, ⟨G, hz, lG, gG⟩, l5, q5⟩
  exact ⟨_, _, rfl, retDR hz lG gG q5 rfl (l4.trans l5) f4⟩
theorem chkL3 {a b c : Dia} (h : ¬ chkL [c, a, b] ≠ 0) : chk c = 0 ∧ chk a = 0 ∧ chk b = 0 := by
  unfold chkL at h
  split at h
  · exact absurd (by assumption) h
  · rename_i hc
    exact ⟨by omega, chkL2 h⟩
theorem choose_spec (hc : DV F u c) (ha : DV F v a) (hb : DV F w b) : Spec prog 27 #[.agg u, .agg v, .agg w] F fun r F' => DRV F' r (cho c a b) ∧ F.le F' := by
  have hc' := hc
  have ha' := ha
  have hb' := hb
  obtain ⟨sc, rfl, hrc⟩ := hc
  obtain ⟨sa, rfl, hra⟩ := ha
  obtain ⟨sb, rfl, hrb⟩ := hb
  refine c27 ?_
  unfold b27
  intro b3 hb3
  refine atI ?_
  have l3 := le_set_fresh (.cells #[sc.v, vi c.2] 28) hb3
  have q3 := set_eq F b3 (.cells #[sc.v, vi c.2] 28)
  generalize F.set b3 (.cells #[sc.v, vi c.2] 28) = F3 at *
  intro b4 hb4
  refine atI ?_
  have lx := le_set_fresh (.cells #[sa.v, vi a.2] 28) hb4
  have q4 := set_eq F3 b4 (.cells #[sa.v, vi a.2] 28)
  replace q3 := lx _ _ q3
  have l4 := l3.trans lx
  clear lx
  generalize F3.set b4 (.cells #[sa.v, vi a.2] 28) = F4 at *
  intro b5 hb5
  refine atI ?_
  have lx := le_set_fresh (.cells #[sb.v, vi b.2] 28) hb5
  have q5 := set_eq F4 b5 (.cells #[sb.v, vi b.2] 28)
  replace q3 := lx _ _ q3
  replace q4 := lx _ _ q4
  have l5 := l4.trans lx
  clear lx
  generalize F4.set b5 (.cells #[sb.v, vi b.2] 28) = F5 at *
  intro b6 hb6
  refine atI ?_
  have f6 : F b6 = none := le_none l5 hb6
  have lx := le_set_fresh (.cells #[Value.slice none 0 0, Value.int .i64 0] 28) hb6
  have q6 := set_eq F5 b6 (.cells #[Value.slice none 0 0, Value.int .i64 0] 28)
  replace q3 := lx _ _ q3
  replace q4 := lx _ _ q4
  replace q5 := lx _ _ q5
  have l6 := l5.trans lx
  clear lx
  generalize F5.set b6 (.cells #[Value.slice none 0 0, Value.int .i64 0] 28) = F6 at *
  refine ⟨#[sc.v, vi c.2], rfl, row_whole q3, #[sa.v, vi a.2], rfl, row_whole q4, #[sb.v, vi b.2], rfl, row_whole q5, rfl, rfl, rfl, fun b11 hb11 => ?_⟩
  refine atI ?_
  have e11 : wr (wr (wr (#[Value.slice none 0 0, Value.int .i64 0, Value.slice none 0 0, Value.int .i64 0, Value.slice none 0 0, Value.int .i64 0] : Array Value) 0 (#[sc.v, vi c.2] : Array Value).toList) 2 (#[sa.v, vi a.2] : Array Value).toList) 4 (#[sb.v, vi b.2] : Array Value).toList = #[sc.v, vi c.2, sa.v, vi a.2, sb.v, vi b.2] := rfl
  rw [e11]
  have lx := le_set_fresh (.cells #[sc.v, vi c.2, sa.v, vi a.2, sb.v, vi b.2] 28) hb11
  have q11 := set_eq F6 b11 (.cells #[sc.v, vi c.2, sa.v, vi a.2, sb.v, vi b.2] 28)
  replace q3 := lx _ _ q3
  replace q4 := lx _ _ q4
  replace q5 := lx _ _ q5
  replace q6 := lx _ _ q6
  have l11 := l6.trans lx
  clear lx
  generalize F6.set b11 (.cells #[sc.v, vi c.2, sa.v, vi a.2, sb.v, vi b.2] 28) = F7 at *
  refine (checkL_spec (F := F7) (x := b11) (dd := [c, a, b]) (n := 3) rfl (by omega) (fun i hi => ?_)).mono ?_
  · have row : ∀ (j : Nat) (s' : Sl) (r : Int), (#[sc.v, vi c.2, sa.v, vi a.2, sb.v, vi b.2] : Array Value)[j]? = some s'.v → (#[sc.v, vi c.2, sa.v, vi a.2, sb.v, vi b.2] : Array Value)[j + 1]? = some (vi r) → F7.row ⟨b11, j, none⟩ #[s'.v, vi r] := fun j s' r h1 h2 i hi => by
      simp only [add_mk]
      rw [cell_eq q11]
      match i, hi with
      | 0, _ => simpa using h1
      | 1, _ => simpa using h2
    match i, hi with
    | 0, _ => exact ⟨_, row 0 sc _ rfl rfl, hc'.le l11⟩
    | 1, _ => exact ⟨_, row 2 sa _ rfl rfl, ha'.le l11⟩
    | 2, _ => exact ⟨_, row 4 sb _ rfl rfl, hb'.le l11⟩
  rintro _ F8 ⟨rfl, l8⟩
  replace q3 := l8 _ _ q3
  replace q4 := l8 _ _ q4
  replace q5 := l8 _ _ q5
  replace q6 := l8 _ _ q6
  replace l8 := l11.trans l8
  refine ⟨_, rfl, fun h => ?_, fun h => ?_⟩
  · have e : cho c a b = (none0, chkL [c, a, b]) := by unfold cho; rw [if_pos h]
    rw [e]
    exact retErr q6 rfl l8 f6
  · obtain ⟨hcc, hca, hcb⟩ := chkL3 h
    obtain ⟨kc, ec, lc⟩ := chk0 hcc
    obtain ⟨ka, ea, la⟩ := chk0 hca
    obtain ⟨kb, eb, lb⟩ := chk0 hcb
    have zc := subs_tre hcc
    have za := subs_tre hca
    have zb := subs_tre hcb
    have hlen := ap_length (o := oCho) kc ka kb
    have hpf := prod_fit zc za zb
    refine ⟨#[sc.v, vi c.2], rfl, row_whole q3, #[sa.v, vi a.2], rfl, row_whole q4, #[sb.v, vi b.2], rfl, row_whole q5, rfl, rfl, rfl, ?_⟩
    have hcho : cho c a b = lim (dia (ap oCho (tre c) (tre a) (tre b))) := by unfold cho; rw [if_neg h]
    rw [hcho]
    have ld : F.le (del1 F8 b6) := le_del1 l8 f6
    have hcm := combine_spec (F := del1 F8 b6) (s0 := sc) (s1 := sa) (s2 := sb) (t0 := tre c) (t1 := tre a) (t2 := tre b) (opv := .func (.func 71) #[] #[]) (o := oCho)
      (by rw [← ec]; exact hrc.le ld) (by rw [← ea]; exact hra.le ld) (by rw [← eb]; exact hrb.le ld) kc ka kb (by omega) (by omega) (by omega) (by omega) (op71 _)
    rw [← ea, ← eb, ← ec] at hcm
    refine (callD hcm q6).mono ?_
    rintro _ F9 ⟨z, rfl, ⟨G, hz, lG, gG⟩, l9, q9⟩
    refine ⟨_, rfl, ?_⟩
    refine (callDR (limited_spec (hz.beside lG gG)) q9).mono ?_
    rintro _ F10 ⟨z', rfl, ⟨G', hz', lG', gG'⟩, l10, q10⟩
    exact ⟨_, _, rfl, retDR hz' lG' gG' q10 rfl (l8.trans (l9.trans l10)) f6⟩

/-! constants and conditions -/
theorem dia_leaf (b : Bool) : dia (leaf b) = ([], if b then 1 else 0) := by cases b <;> rfl
abbrev tv (v : Nat) : Tr := node v (leaf false) (leaf true)
theorem dia_tv (v : Nat) : dia (tv v) = ([⟨(v : Int), 0, 1⟩], 2) := by
  have e : subs (tv v) = [tv v] := by simp [subs, vis, tv]
  unfold dia
  rw [e]
  simp [brs, br, num, tv]
theorem ok_tv {v : Nat} (h : v < 64) : (tv v).ok := ⟨h, h, h, by simp, trivial, trivial⟩
theorem constant_spec (x : Bool) : Spec prog 17 #[.bool x] F fun r F' => ∃ w, r = .agg w ∧ DV F' w (dia (leaf x)) ∧ F.le F' := by
  refine c17 ?_
  unfold b17
  intro b2 hb2
  refine atI ?_
  have l2 := le_set_fresh (.cells #[Value.slice none 0 0, Value.int .i64 0] 28) hb2
  have q2 := set_eq F b2 (.cells #[Value.slice none 0 0, Value.int .i64 0] 28)
  refine ⟨fun h => ?_, fun h => ?_⟩
  · subst h
    have hd : ∀ G : PH, DV G #[Value.slice none 0 0, Value.int .i64 1] (dia (leaf true)) := fun G => ⟨Sl.nil, rfl, RdS.nil G 3⟩
    exact ret2 (K := fun vres F' => ∃ w, Value.agg vres = .agg w ∧ DV F' w (dia (leaf true)) ∧ F.le F') (hd F) q2 rfl ⟨_, rfl, hd _, le_set_new l2 hb2⟩
  · subst h
    have hd : ∀ G : PH, DV G #[Value.slice none 0 0, Value.int .i64 0] (dia (leaf false)) := fun G => ⟨Sl.nil, rfl, RdS.nil G 3⟩
    exact ret2 (K := fun vres F' => ∃ w, Value.agg vres = .agg w ∧ DV F' w (dia (leaf false)) ∧ F.le F') (hd F) q2 rfl ⟨_, rfl, hd _, le_set_new l2 hb2⟩
def varD (v : Int) : DR := if v < 0 ∨ 63 < v then (none0, 1) else (dia (tv v.toNat), 0)
theorem var_spec (x : Int) : Spec prog 30 #[vi x] F fun r F' => DRV F' r (varD x) ∧ F.le F' := by
  refine c30 ?_
  unfold b30
  intro b2 hb2
  refine atI ?_
  have l2 := le_set_fresh (.cells #[Value.slice none 0 0, Value.int .i64 0] 28) hb2
  have q2 := set_eq F b2 (.cells #[Value.slice none 0 0, Value.int .i64 0] 28)
  generalize F.set b2 (.cells #[Value.slice none 0 0, Value.int .i64 0] 28) = F2 at *
  have bad : x < 0 ∨ 63 < x → b30j1 x b2 true (fun r F' => DRV F' r (varD x) ∧ F.le F') F2 := fun h => by
    unfold b30j1
    refine ⟨fun _ => ?_, fun hc => by cases hc⟩
    have e : varD x = (none0, 1) := by unfold varD; rw [if_pos h]
    rw [e]
    exact retErr q2 rfl l2 hb2
  refine ⟨fun h => bad (.inl h), fun h => ?_⟩
  by_cases h2 : 63 < x
  · rw [decide_eq_true h2]
    exact bad (.inr h2)
  · rw [decide_eq_false h2]
    unfold b30j1
    refine ⟨fun hc => (by cases hc), fun _ => ⟨rfl, fun b13 hb13 => ?_⟩⟩
    refine atI ?_
    have e : varD x = (dia (tv x.toNat), 0) := by unfold varD; rw [if_neg (by omega)]
    have hx : ((x.toNat : Nat) : Int) = x := by omega
    have lx := le_set_fresh (.cells #[vi x, vi 0, vi 1] 72) hb13
    have q13 := set_eq F2 b13 (.cells #[vi x, vi 0, vi 1] 72)
    have n : b13 ≠ b2 := (ne_of_fresh hb13 q2).symm
    replace q2 := lx _ _ q2
    have l3 := l2.trans lx
    rw [e]
    have hd : ∀ G : PH, G b13 = some (.cells #[vi x, vi 0, vi 1] 72) → DV G #[(Sl.mk (some ⟨b13, 0, none⟩) 1 1).v, vi 2] (dia (tv x.toNat)) := fun G hG => by
      rw [dia_tv, hx]
      exact ⟨_, rfl, RdS.new hG rfl rfl (Nat.le_refl _)⟩
    exact ret2 (K := fun vres F' => DRV F' (.tuple #[.agg vres, vi 0]) (dia (tv x.toNat), 0) ∧ F.le F') (hd _ q13) q2 rfl ⟨⟨_, rfl, hd _ (by rw [set_ne _ _ n]; exact q13)⟩, le_set_new l3 hb2⟩
end
theorem set_set_ne (c : Cf) {v w : Nat} (h : v ≠ w) (b : Bool) : (c.set w b) v = c v := by simp [Cf.set, h]
theorem ex_fx (w : Nat) (b : Bool) : ∀ (t : Tr), t.ok → ∃ u : Tr, u.ok ∧ t.top ≤ u.top ∧ ∀ c, u.ev c = t.ev (c.set w b)
  | leaf x, _ => ⟨leaf x, trivial, Nat.le_refl _, fun _ => rfl⟩
  | node v l h, ⟨h0, h1, h2, h3, h4, h5⟩ => by
    obtain ⟨ul, l1, l2, l3⟩ := ex_fx w b l h4
    obtain ⟨uh, g1, g2, g3⟩ := ex_fx w b h h5
    by_cases hv : v = w
    · subst hv
      cases b with
      | true => exact ⟨uh, g1, by show v ≤ uh.top; omega, fun c => by rw [g3]; simp [Tr.ev, Cf.set]⟩
      | false => exact ⟨ul, l1, by show v ≤ ul.top; omega, fun c => by rw [l3]; simp [Tr.ev, Cf.set]⟩
    · refine ⟨mk v ul uh, ok_mk h0 (by omega) (by omega) l1 g1, (show v ≤ (mk v ul uh).top from top_mk (by omega)), fun c => ?_⟩
      rw [ev_mk, l3, g3]
      simp only [Tr.ev, set_set_ne c hv b]
/-- The restriction of a tree. -/
noncomputable def fx (w : Nat) (b : Bool) (t : Tr) : Tr := can fun c => t.ev (c.set w b)
theorem fx_facts (w : Nat) (b : Bool) {t : Tr} (ht : t.ok) : (fx w b t).ok ∧ t.top ≤ (fx w b t).top ∧ ∀ c, (fx w b t).ev c = t.ev (c.set w b) := by
  obtain ⟨u, h1, h2, h3⟩ := ex_fx w b t ht
  have : fx w b t = u := can_eq h1 h3
  rw [this]
  exact ⟨h1, h2, h3⟩
theorem fx_leaf (w : Nat) (b x : Bool) : fx w b (leaf x) = leaf x := can_eq trivial fun _ => rfl
theorem fx_node {w : Nat} {b : Bool} {v : Nat} {l h : Tr} (hk : (node v l h).ok) : fx w b (node v l h) = if v = w then (if b = true then fx w b h else fx w b l) else mk v (fx w b l) (fx w b h) := by
  obtain ⟨h0, h1, h2, h3, h4, h5⟩ := hk
  obtain ⟨l1, l2, l3⟩ := fx_facts w b h4
  obtain ⟨g1, g2, g3⟩ := fx_facts w b h5
  by_cases hv : v = w
  · subst hv
    rw [if_pos rfl]
    cases b with
    | true => exact can_eq g1 fun c => by rw [if_pos rfl, g3]; simp [Tr.ev, Cf.set]
    | false => exact can_eq l1 fun c => by rw [if_neg (by simp), l3]; simp [Tr.ev, Cf.set]
  · rw [if_neg hv]
    refine can_eq (ok_mk h0 (by omega) (by omega) l1 g1) fun c => ?_
    rw [ev_mk, l3, g3]
    simp only [Tr.ev, set_set_ne c hv b]

theorem BD.pin {F0 F : PH} {b m x : Nat} {c : Array Value} {e : TypeId} {fr : Nat × Nat} {S : List Tr} (h : BD F0 F b m S) (hx : F x = some (.cells c e fr)) (h1 : e ≠ 84) (h2 : e ≠ 72) : BD (F0.set x (.cells c e fr)) F b m S := by
  obtain ⟨k1, k2, k3, k4, ⟨s, k5, k6, k7⟩, o', k8, k9⟩ := h
  refine ⟨fun y oy hy => ?_, k2, ?_, ?_, ⟨s, k5, k6, fun a ha => ?_⟩, o', k8, k9⟩
  · by_cases hyx : y = x
    · subst hyx; rw [set_eq] at hy; rw [hx]; exact hy
    · rw [set_ne _ _ hyx] at hy; exact k1 _ _ hy
  · rw [set_ne _ _ (fun e' => by rw [e', hx] at k5; simp at k5; exact h1 k5.2.1)]; exact k3
  · rw [set_ne _ _ (fun e' => by
      obtain ⟨es, cl, L, rfl, _⟩ := k9
      rw [e', hx] at k8; simp at k8)]; exact k4
  · obtain ⟨cur, hcur⟩ := k6.elem ha
    rw [set_ne _ _ (fun e' => by rw [e', hx] at hcur; simp at hcur; exact h2 hcur.2.1)]
    exact k7 a ha
theorem BD.setCells {F0 F : PH} {b m x : Nat} {c : Array Value} {e : TypeId} {fr : Nat × Nat} {o : Obj} {S : List Tr} (h : BD F0 F b m S) (h0 : F0 x = none) (hx : F x = some (.cells c e fr)) (h1 : e ≠ 84) (h2 : e ≠ 72) : BD F0 (F.set x o) b m S := by
  obtain ⟨k1, k2, k3, k4, ⟨s, k5, k6, k7⟩, o', k8, k9⟩ := h
  refine ⟨le_set_new k1 h0, k2, k3, k4, ⟨s, ?_, k6.keep fun a ha => set_ne _ _ (fun e' => ?_), k7⟩, o', ?_, k9⟩
  · rw [set_ne _ _ (fun e' => by rw [e', hx] at k5; simp at k5; exact h1 k5.2.1)]; exact k5
  · obtain ⟨cur, hcur⟩ := k6.elem ha
    rw [e', hx] at hcur; simp at hcur; exact h2 hcur.2.1
  · rw [set_ne _ _ (fun e' => by
      obtain ⟨es, cl, L, rfl, _⟩ := k9
      rw [e', hx] at k8; simp at k8)]; exact k8

/-- The numbers so far. -/
noncomputable def fxA (w : Nat) (b : Bool) (T S : List Tr) (k : Nat) : List Value := (List.range (T.length + 2)).map fun j => if j < k + 2 then vi (num S (fx w b (tr T j))) else vi 0
theorem fxA_get {w : Nat} {b : Bool} {T S : List Tr} {k j : Nat} (h : j < k + 2) (hk : k ≤ T.length) : (fxA w b T S k)[j]? = some (vi (num S (fx w b (tr T j)))) := by
  unfold fxA
  rw [List.getElem?_map, List.getElem?_range (by omega)]
  simp [h]
theorem fxA_zero (w : Nat) (b : Bool) (T : List Tr) : (List.replicate (T.length + 2) (vi 0)).set 1 (vi 1) = fxA w b T [] 0 := by
  apply List.ext_getElem?
  intro j
  unfold fxA
  rw [List.getElem?_map, List.getElem?_set]
  have h0 : tr T 0 = leaf false := rfl
  have h1 : tr T 1 = leaf true := rfl
  by_cases hj : j < T.length + 2
  · rw [List.getElem?_range hj]
    simp only [Option.map_some, List.length_replicate, List.getElem?_replicate]
    match j, hj with
    | 0, _ => simp [h0, fx_leaf, num]
    | 1, _ => simp [h1, fx_leaf, num]
    | j + 2, hj => rw [if_neg (by omega), if_pos hj, if_neg (by omega)]
  · have e2 : (List.range (T.length + 2))[j]? = none := by simp; omega
    rw [e2]
    simp only [List.getElem?_replicate, Option.map_none]
    rw [if_neg (by omega), if_neg (by omega)]
theorem fxA_step {w : Nat} {b : Bool} {T S S' : List Tr} {k : Nat} (hk : k < T.length) (hn : ∀ j, j < k + 2 → num S' (fx w b (tr T j)) = num S (fx w b (tr T j))) :
    (fxA w b T S k).set (k + 2) (vi (num S' (fx w b (tr T (k + 2))))) = fxA w b T S' (k + 1) := by
  apply List.ext_getElem?
  intro j
  unfold fxA
  rw [List.getElem?_set, List.getElem?_map, List.getElem?_map]
  by_cases hj : j < T.length + 2
  · rw [List.getElem?_range hj]
    simp only [Option.map_some, List.length_map, List.length_range]
    by_cases h1 : k + 2 = j
    · subst h1
      simp
      omega
    · rw [if_neg h1]
      by_cases h2 : j < k + 2
      · rw [if_pos h2, if_pos (by omega), hn j h2]
      · rw [if_neg h2, if_neg (by omega)]
  · have e2 : (List.range (T.length + 2))[j]? = none := by simp; omega
    rw [e2]
    simp only [Option.map_none]
    rw [if_neg (by omega)]

section
variable {F : PH} {v : Array Value} {t : Tr}
theorem fixed_spec (hd : DV F v (dia t)) (ht : t.ok) (hl : (subs t).length ≤ 4096) (w : Nat) (x : Bool) : Spec prog 72 #[.agg v, vi w, .bool x] F fun r F' => ∃ u, r = .agg u ∧ DV F' u (dia (fx w x t)) ∧ F.le F' := by
  have hT := subs_cl ht
  obtain ⟨s, rfl, hr⟩ := hd
  have hr' : RdS F s 3 (bflat (brs (subs t))) := hr
  have hlen := hr'.blen
  rw [brs_length] at hlen
  refine c72 ?_
  unfold b72
  intro b3 hb3
  refine atI ?_
  have l3 := le_set_fresh (.cells #[s.v, vi (dia t).2] 28) hb3
  have q3 := set_eq F b3 (.cells #[s.v, vi (dia t).2] 28)
  generalize F.set b3 (.cells #[s.v, vi (dia t).2] 28) = F3 at *
  intro b6 hb6
  refine atI ?_
  have f6 : F b6 = none := le_none l3 hb6
  have lx := le_set_fresh (.cells #[Value.slice none 0 0, Value.int .i64 0] 28) hb6
  have q6 := set_eq F3 b6 (.cells #[Value.slice none 0 0, Value.int .i64 0] 28)
  replace q3 := lx _ _ q3
  have l6 := l3.trans lx
  clear lx
  generalize F3.set b6 (.cells #[Value.slice none 0 0, Value.int .i64 0] 28) = E at *
  refine (newBuilder_spec E).mono ?_
  rintro _ G ⟨bb, mm, rfl, hne, bd⟩
  have hw2 : IntKind.i64.wrap ((s.len : Int) + 2) = (((subs t).length + 2 : Nat) : Int) := by rw [hlen, w64_eq (by omega) (by omega)]; omega
  refine ⟨_, rfl, s, by rw [cell_eq (bd.le _ _ q3)]; rfl, ?_⟩
  rw [hw2]
  refine runs_makeSlice underlying68 sz3 zr3 rfl (by omega) (Int.le_refl _) (by omega) (by omega) ?_
  intro g hg
  rw [zc1 _ rfl, Int.toNat_natCast]
  have Eg : E g = none := le_none bd.le hg
  refine ⟨_, rfl, _, rfl, by omega, by simp only; omega, ?_⟩
  refine st1' (b := g) (o := 1) (by simp) (set_eq _ _ _) (by simp) ?_
  rw [set_twice, List.setIfInBounds_toArray]
  rw [fxA_zero w x (subs t)]
  have bd1 := (bd.upto (le_set_fresh (.cells (fxA w x (subs t) [] 0).toArray 3) hg))
  have qg := set_eq G g (.cells (fxA w x (subs t) [] 0).toArray 3)
  generalize G.set g (.cells (fxA w x (subs t) [] 0).toArray 3) = G1 at *
  refine ⟨s, by rw [cell_eq (bd1.le _ _ q3)]; rfl, ?_⟩
  refine ⟨fun m i F' => ∃ (k : Nat) (S : List Tr), i = k ∧ k ≤ (subs t).length ∧ m = (subs t).length - k ∧ BD E F' bb mm S ∧ S.length ≤ k ∧ (∀ j, j < k + 2 → inn S (fx w x (tr (subs t) j))) ∧ F' g = some (.cells (fxA w x (subs t) S k).toArray 3), (subs t).length,
    ⟨0, [], rfl, by omega, rfl, bd1, by simp, fun j hj => ?_, qg⟩, ?_⟩
  · match j, hj with
    | 0, _ => show inn [] (fx w x (leaf false)); rw [fx_leaf]; exact inn_leaf _ _
    | 1, _ => show inn [] (fx w x (leaf true)); rw [fx_leaf]; exact inn_leaf _ _
  rintro m i F1 ⟨k, S, rfl, hk, rfl, hbd, hSk, hin, hg1⟩
  unfold b72L1
  refine ⟨fun hlt => ?_, fun hge => ?_⟩
  · have hkT : k < (subs t).length := by omega
    obtain ⟨hck, vv, lo', hi', hget, hlo, hhi, hok, _⟩ := cl_get hT k hkT
    have hlo2 := num_le hlo
    have hhi2 := num_le hhi
    rw [← num_take hlo, List.length_take] at hlo2
    rw [← num_take hhi, List.length_take] at hhi2
    have inl : inn (subs t) lo' := by rw [← List.take_append_drop k (subs t)]; exact inn_append hlo
    have inh : inn (subs t) hi' := by rw [← List.take_append_drop k (subs t)]; exact inn_append hhi
    obtain ⟨a, ha, hrow, _⟩ := rdb (hr'.le (l6.trans hbd.le)) (brs_get hget)
    refine ⟨a, ha, by omega, hlt, barr (br (subs t) (node vv lo' hi')), rfl, by simpa using hrow, ?_⟩
    intro b10 hb10
    refine atI ?_
    refine stW (set_eq _ _ _) rfl rfl (st_barr _) ?_
    rw [set_twice]
    have hE10 : E b10 = none := le_none hbd.le hb10
    have bd2 := (hbd.grow (F := F1.set b10 (.cells (barr (br (subs t) (node vv lo' hi'))) 72)) (le_set_fresh _ hb10) hb10 (set_eq _ _ _))
    have n10 : g ≠ b10 := ne_of_fresh hb10 hg1
    have qg2 : (F1.set b10 (.cells (barr (br (subs t) (node vv lo' hi'))) 72)) g = some (.cells (fxA w x (subs t) S k).toArray 3) := by rw [set_ne _ _ n10]; exact hg1
    have c10 : ∀ G : PH, (F1.set b10 (.cells (barr (br (subs t) (node vv lo' hi'))) 72)).le G → G b10 = some (.cells (barr (br (subs t) (node vv lo' hi'))) 72) := fun G hG => hG _ _ (set_eq _ _ _)
    have e10 := set_eq E b10 (.cells (barr (br (subs t) (node vv lo' hi'))) 72)
    have lE : E.le (E.set b10 (.cells (barr (br (subs t) (node vv lo' hi'))) 72)) := le_set_fresh _ hE10
    have Eg2 : (E.set b10 (.cells (barr (br (subs t) (node vv lo' hi'))) 72)) g = none := by rw [set_ne _ _ n10]; exact Eg
    generalize F1.set b10 (.cells (barr (br (subs t) (node vv lo' hi'))) 72) = F2 at *
    generalize E.set b10 (.cells (barr (br (subs t) (node vv lo' hi'))) 72) = E2 at *
    have h10 := bd2.le _ _ e10
    have trl := tr_num hT inl
    have trh := tr_num hT inh
    have hnl : (fxA w x (subs t) S k)[num (subs t) lo']? = some (vi (num S (fx w x lo'))) := by rw [fxA_get (by omega) (by omega), trl]
    have hnh : (fxA w x (subs t) S k)[num (subs t) hi']? = some (vi (num S (fx w x hi'))) := by rw [fxA_get (by omega) (by omega), trh]
    have il : inn S (fx w x lo') := by have := hin (num (subs t) lo') (by omega); rwa [trl] at this
    have ih : inn S (fx w x hi') := by have := hin (num (subs t) hi') (by omega); rwa [trh] at this
    have hk2 : tr (subs t) (k + 2) = node vv lo' hi' := by
      unfold tr
      rw [if_neg (by omega), if_neg (by omega), Nat.add_sub_cancel, List.getD_eq_getElem?_getD, hget]
      rfl
    obtain ⟨o1, o2, o3, o4, o5, o6⟩ := hok
    obtain ⟨p1, p2, _⟩ := fx_facts w x o5
    obtain ⟨r1, r2, _⟩ := fx_facts w x o6
    have hfx := fx_node (w := w) (b := x) (v := vv) (l := lo') (h := hi') ⟨o1, o2, o3, o4, o5, o6⟩
    -- the rest, for any two sides
    have rest : ∀ A B : Tr, inn S A → inn S B → vv < A.top → vv < B.top → fx w x (node vv lo' hi') = mk vv A B → ∀ {R : Value → PH → Prop} {N : Int → PH → Prop},
        (∀ F', (∃ S', BD E F' bb mm S' ∧ S'.length ≤ k + 1 ∧ (∀ j, j < k + 1 + 2 → inn S' (fx w x (tr (subs t) j))) ∧ F' g = some (.cells (fxA w x (subs t) S' (k + 1)).toArray 3)) → N ((k + 1 : Nat) : Int) F') →
        b72j2 N w x b3 b6 (some ⟨bb, 0, none⟩) ⟨some ⟨g, 0, none⟩, (subs t).length + 2, (subs t).length + 2⟩ k b10 s (num S A) (num S B) R F2 := by
      intro A B hA hB tA tB hAB R N hN
      unfold b72j2
      refine ⟨_, by rw [cell_eq h10]; rfl, ?_⟩
      have bd3 := bd2.pin qg2 (by decide) (by decide)
      refine (branch_spec bd3 hA hB ⟨o1, tA, tB⟩ (by omega)).mono ?_
      rintro _ F3 ⟨rfl, bd4⟩
      have qg4 := bd4.le _ _ (set_eq E2 g (.cells (fxA w x (subs t) S k).toArray 3))
      have bd5 : BD E2 F3 bb mm (addT S (mk vv A B)) := bd4.weaken (le_set_new PH.le_rfl Eg2)
      have hw3 : IntKind.i64.wrap ((k : Int) + 2) = ((k + 2 : Nat) : Int) := by rw [w64_eq (by omega) (by omega)]; omega
      have hw4 : IntKind.i64.wrap ((k : Int) + 1) = ((k + 1 : Nat) : Int) := w64s (by omega)
      rw [hw3, hw4]
      refine ⟨_, rfl, _, rfl, by omega, by simp only; omega, ?_⟩
      refine st1' (b := g) (o := k + 2) (by simp; omega) qg4 (by simp [fxA]; omega) ?_
      rw [List.setIfInBounds_toArray]
      have hnum : ∀ {u : Tr}, inn S u → inn (addT S (mk vv A B)) u ∧ num (addT S (mk vv A B)) u = num S u := fun {u} hu => by
        unfold addT
        split
        · exact ⟨hu, rfl⟩
        · exact ⟨inn_append hu, num_append hu⟩
      have hinT : inn (addT S (mk vv A B)) (mk vv A B) := by
        unfold addT
        split
        · assumption
        · exact .inr (by simp)
      have hst := fxA_step (w := w) (b := x) (T := subs t) (S := S) (S' := addT S (mk vv A B)) hkT (fun j hj => (hnum (hin j hj)).2)
      rw [hk2, hfx, ← hfx, hAB] at hst
      rw [hst]
      refine hN _ ⟨_, ((bd5.weaken lE).setCells Eg qg4 (by decide) (by decide)), ?_, fun j hj => ?_, set_eq _ _ _⟩
      · unfold addT
        split
        · omega
        · simp only [List.length_append, List.length_singleton]; omega
      · by_cases hj2 : j < k + 2
        · exact (hnum (hin j hj2)).1
        · obtain rfl : j = k + 2 := by omega
          rw [hk2, hAB]
          exact hinT
    have done : ∀ F' : PH, (∃ S', BD E F' bb mm S' ∧ S'.length ≤ k + 1 ∧ (∀ j, j < k + 1 + 2 → inn S' (fx w x (tr (subs t) j))) ∧ F' g = some (.cells (fxA w x (subs t) S' (k + 1)).toArray 3)) →
        ∃ m', m' < (subs t).length - k ∧ ∃ (k' : Nat) (S : List Tr), ((k + 1 : Nat) : Int) = k' ∧ k' ≤ (subs t).length ∧ m' = (subs t).length - k' ∧ BD E F' bb mm S ∧ S.length ≤ k' ∧ (∀ j, j < k' + 2 → inn S (fx w x (tr (subs t) j))) ∧ F' g = some (.cells (fxA w x (subs t) S k').toArray 3) := fun F' ⟨S', h1, h2, h3, h4⟩ =>
      ⟨(subs t).length - (k + 1), by omega, k + 1, S', rfl, by omega, rfl, h1, h2, h3, h4⟩
    refine ⟨_, by rw [cell_eq h10]; rfl, _, rfl, by simp only [br]; omega, by simp only [br]; omega, vi (num S (fx w x lo')) |> fun _ => (num S (fx w x lo') : Int), by simp only [add_mk]; rw [cell_eq qg2]; simpa [br] using hnl,
      _, by rw [cell_eq h10]; rfl, _, rfl, by simp only [br]; omega, by simp only [br]; omega, (num S (fx w x hi') : Int), by simp only [add_mk]; rw [cell_eq qg2]; simpa [br] using hnh, _, by rw [cell_eq h10]; rfl, fun hv => ?_, fun hv => ?_⟩
    · have hvw : vv = w := by simp only [br] at hv; omega
      rw [if_pos hvw] at hfx
      refine ⟨fun hx => ?_, fun hx => ?_⟩
      · rw [if_pos hx] at hfx
        exact rest (fx w x hi') (fx w x hi') ih ih (by omega) (by omega) (by rw [hfx]; simp [mk]) done
      · rw [if_neg (by simp [hx])] at hfx
        exact rest (fx w x lo') (fx w x lo') il il (by omega) (by omega) (by rw [hfx]; simp [mk]) done
    · have hvw : ¬ vv = w := by simp only [br] at hv; omega
      rw [if_neg hvw] at hfx
      exact rest (fx w x lo') (fx w x hi') il ih (by omega) (by omega) hfx done
  · obtain rfl : k = (subs t).length := by omega
    unfold b72j1
    have hni := subs_inn ht
    have hnl := num_le hni
    have hct : (fxA w x (subs t) S (subs t).length)[num (subs t) t]? = some (vi (num S (fx w x t))) := by rw [fxA_get (by omega) (by omega), tr_num hT hni]
    refine ⟨(num (subs t) t : Int), by rw [cell_eq (hbd.le _ _ q3)]; rfl, _, rfl, by omega, by simp only; omega, (num S (fx w x t) : Int), by simp only [add_mk]; rw [cell_eq hg1]; simpa using hct, ?_⟩
    have hinf := hin (num (subs t) t) (by omega)
    rw [tr_num hT hni] at hinf
    obtain ⟨_, hcl, _, _, ⟨sb, hbb, hob, _⟩, _⟩ := id hbd
    have h16 := hbd.le _ _ q6
    have nbb : bb ≠ b6 := fun e => by rw [e, h16] at hbb; simp at hbb
    have hob' : OwnS (del1 F1 b6) 72 3 sb (bflat (brs S)) := hob.keep fun a ha => by
      obtain ⟨cur, hcur⟩ := hob.elem ha
      refine del1_of (fun e => ?_)
      rw [e, h16] at hcur
      simp at hcur
    refine (callD (diagram_spec (b := bb) (F := del1 F1 b6) (ns := sb) (by rw [cell_eq ((del1_of nbb).trans hbb)]; rfl) hob'.rd hcl hinf (by omega)) h16).mono ?_
    rintro _ F2 ⟨u, rfl, ⟨G', hu, lG, gG⟩, l2, q2⟩
    refine ⟨_, rfl, ?_⟩
    exact ret2 (K := fun vres F' => ∃ w', Value.agg vres = .agg w' ∧ DV F' w' (dia (fx w x t)) ∧ F.le F') hu q2 rfl ⟨_, rfl, hu.le (le_set_new lG gG), le_set_new (l6.trans (hbd.le.trans l2)) f6⟩
end
/-! a restriction has no more branches -/
theorem vis_fx {w : Nat} {b : Bool} {T : Tr} (hT : T.ok) : ∀ (t : Tr), inn (subs T) t → ∀ (S : List Tr), Cl S → ∀ u ∈ vis (fx w b t) S, u ∈ S ∨ u ∈ (subs T).map (fx w b)
  | leaf x, _, S, _ => by
    rw [fx_leaf]
    exact fun u hu => .inl hu
  | node v l h, ht, S, hS => by
    have hcl := subs_cl hT
    have hk := hcl.inn_ok ht
    obtain ⟨il, ih⟩ := hcl.inn_kids ht
    have hf := fx_node (w := w) (b := b) hk
    obtain ⟨h0, h1, h2, h3, h4, h5⟩ := hk
    obtain ⟨l1, l2, l3⟩ := fx_facts w b h4
    obtain ⟨g1, g2, g3⟩ := fx_facts w b h5
    have vl := vis_fx (w := w) (b := b) hT l il
    have vh := vis_fx (w := w) (b := b) hT h ih
    by_cases hv : v = w
    · rw [if_pos hv] at hf
      rw [hf]
      split
      · exact vh S hS
      · exact vl S hS
    · rw [if_neg hv] at hf
      have hadd := addT_vis hS (v := v) (l := fx w b l) (h := fx w b h) ⟨h0, by omega, by omega, l1, g1⟩
      rw [← hf] at hadd
      rw [← hadd]
      intro u hu
      have key : u ∈ vis (fx w b h) (vis (fx w b l) S) → u ∈ S ∨ u ∈ (subs T).map (fx w b) := fun hu => by
        rcases vh _ (vis_facts _ S l1 hS).1 u hu with h | h
        · exact vl S hS u h
        · exact .inr h
      unfold addT at hu
      split at hu
      · exact key hu
      · rcases List.mem_append.1 hu with hu | hu
        · exact key hu
        · rw [List.mem_singleton.1 hu]
          exact .inr (List.mem_map.2 ⟨_, inn_mem ht rfl, rfl⟩)
theorem fx_length {w : Nat} {b : Bool} {t : Tr} (ht : t.ok) : (subs (fx w b t)).length ≤ (subs t).length := by
  have := nodup_length (subs (fx w b t)) ((subs t).map (fx w b)) (subs_cl (fx_facts w b ht).1).nodup fun x hx => by
    rcases vis_fx ht t (subs_inn ht) [] .nil x hx with h | h
    · cases h
    · exact h
  simpa using this

noncomputable def resD (a : Dia) (v : Int) (b : Bool) : DR := if chk a ≠ 0 then (none0, chk a) else if v < 0 ∨ 63 < v then (none0, 1) else lim (dia (fx v.toNat b (tre a)))
abbrev oOr3 : Op3 := fun x y _ => x || y
noncomputable def exT (v : Nat) (t : Tr) : Tr := ap oOr3 (fx v false t) (fx v true t) (leaf false)
noncomputable def exD (a : Dia) (v : Int) : DR := if chk a ≠ 0 then (none0, chk a) else if v < 0 ∨ 63 < v then (none0, 1) else lim (dia (exT v.toNat (tre a)))

section
variable {F : PH} {v : Array Value} {a : Dia}
theorem restrict_spec (ha : DV F v a) (w : Int) (x : Bool) : Spec prog 28 #[.agg v, vi w, .bool x] F fun r F' => DRV F' r (resD a w x) ∧ F.le F' := by
  refine c28 ?_
  unfold b28
  intro b3 hb3
  refine atI ?_
  have l3 := le_set_fresh (.cells v 28) hb3
  have q3 := set_eq F b3 (.cells v 28)
  generalize F.set b3 (.cells v 28) = F3 at *
  intro b6 hb6
  refine atI ?_
  have f6 : F b6 = none := le_none l3 hb6
  have lx := le_set_fresh (.cells #[Value.slice none 0 0, Value.int .i64 0] 28) hb6
  have q6 := set_eq F3 b6 (.cells #[Value.slice none 0 0, Value.int .i64 0] 28)
  replace q3 := lx _ _ q3
  have l6 := l3.trans lx
  clear lx
  generalize F3.set b6 (.cells #[Value.slice none 0 0, Value.int .i64 0] 28) = F6 at *
  refine ⟨v, ha.size, row_whole q3, ?_⟩
  refine (check_spec (ha.le l6)).mono ?_
  rintro _ F7 ⟨rfl, l7⟩
  replace q3 := l7 _ _ q3
  replace q6 := l7 _ _ q6
  replace l7 := l6.trans l7
  refine ⟨_, rfl, fun h => ?_, fun h => ?_⟩
  · have e : resD a w x = (none0, chk a) := by unfold resD; rw [if_pos h]
    rw [e]
    exact retErr q6 rfl l7 f6
  have h0 : chk a = 0 := by omega
  have bad : w < 0 ∨ 63 < w → b28j1 w x b3 b6 true (fun r F' => DRV F' r (resD a w x) ∧ F.le F') F7 := fun hb => by
    unfold b28j1
    refine ⟨fun _ => ?_, fun hc => by cases hc⟩
    have e : resD a w x = (none0, 1) := by unfold resD; rw [if_neg h, if_pos hb]
    rw [e]
    exact retErr q6 rfl l7 f6
  refine ⟨fun hb => bad (.inl hb), fun hb => ?_⟩
  by_cases hb2 : 63 < w
  · rw [decide_eq_true hb2]
    exact bad (.inr hb2)
  · rw [decide_eq_false hb2]
    unfold b28j1
    refine ⟨fun hc => (by cases hc), fun _ => ⟨v, ha.size, row_whole q3, ?_⟩⟩
    have e : resD a w x = lim (dia (fx w.toNat x (tre a))) := by unfold resD; rw [if_neg h, if_neg (by omega)]
    obtain ⟨ka, ea, la⟩ := chk0 h0
    have ld : F.le (del1 F7 b6) := le_del1 l7 f6
    have hd := ha.le ld
    rw [ea] at hd
    have hw : ((w.toNat : Nat) : Int) = w := by omega
    have hf := fixed_spec hd ka (subs_tre h0) w.toNat x
    rw [hw] at hf
    refine (callD hf q6).mono ?_
    rintro _ F9 ⟨z, rfl, ⟨G, hz, lG, gG⟩, l9, q9⟩
    refine ⟨_, rfl, ?_⟩
    rw [e]
    refine (callDR (limited_spec (hz.beside lG gG)) q9).mono ?_
    rintro _ F10 ⟨z', rfl, ⟨G', hz', lG', gG'⟩, l10, q10⟩
    exact ⟨_, _, rfl, retDR hz' lG' gG' q10 rfl (l7.trans (l9.trans l10)) f6⟩
theorem exists_spec (ha : DV F v a) (w : Int) : Spec prog 29 #[.agg v, vi w] F fun r F' => DRV F' r (exD a w) ∧ F.le F' := by
  refine c29 ?_
  unfold b29
  intro b3 hb3
  refine atI ?_
  have l3 := le_set_fresh (.cells v 28) hb3
  have q3 := set_eq F b3 (.cells v 28)
  generalize F.set b3 (.cells v 28) = F3 at *
  intro b6 hb6
  refine atI ?_
  have f6 : F b6 = none := le_none l3 hb6
  have lx := le_set_fresh (.cells #[Value.slice none 0 0, Value.int .i64 0] 28) hb6
  have q6 := set_eq F3 b6 (.cells #[Value.slice none 0 0, Value.int .i64 0] 28)
  replace q3 := lx _ _ q3
  have l6 := l3.trans lx
  clear lx
  generalize F3.set b6 (.cells #[Value.slice none 0 0, Value.int .i64 0] 28) = F6 at *
  refine ⟨v, ha.size, row_whole q3, ?_⟩
  refine (check_spec (ha.le l6)).mono ?_
  rintro _ F7 ⟨rfl, l7⟩
  replace q3 := l7 _ _ q3
  replace q6 := l7 _ _ q6
  replace l7 := l6.trans l7
  refine ⟨_, rfl, fun h => ?_, fun h => ?_⟩
  · have e : exD a w = (none0, chk a) := by unfold exD; rw [if_pos h]
    rw [e]
    exact retErr q6 rfl l7 f6
  have h0 : chk a = 0 := by omega
  have bad : w < 0 ∨ 63 < w → b29j1 w b3 b6 true (fun r F' => DRV F' r (exD a w) ∧ F.le F') F7 := fun hb => by
    unfold b29j1
    refine ⟨fun _ => ?_, fun hc => by cases hc⟩
    have e : exD a w = (none0, 1) := by unfold exD; rw [if_neg h, if_pos hb]
    rw [e]
    exact retErr q6 rfl l7 f6
  refine ⟨fun hb => bad (.inl hb), fun hb => ?_⟩
  by_cases hb2 : 63 < w
  · rw [decide_eq_true hb2]
    exact bad (.inr hb2)
  · rw [decide_eq_false hb2]
    unfold b29j1
    refine ⟨fun hc => (by cases hc), fun _ => ⟨v, ha.size, row_whole q3, v, ha.size, row_whole q3, ?_⟩⟩
    have e : exD a w = lim (dia (exT w.toNat (tre a))) := by unfold exD; rw [if_neg h, if_neg (by omega)]
    obtain ⟨ka, ea, la⟩ := chk0 h0
    have sa := subs_tre h0
    have ld : F.le (del1 F7 b6) := le_del1 l7 f6
    have hd := ha.le ld
    rw [ea] at hd
    have hw : ((w.toNat : Nat) : Int) = w := by omega
    have hf := fixed_spec hd ka sa w.toNat false
    rw [hw] at hf
    refine (callD hf q6).mono ?_
    rintro _ F9 ⟨z0, rfl, ⟨G0, hz0, lG0, gG0⟩, l9, q9⟩
    refine ⟨_, rfl, row_whole (l9 _ _ q3), ?_⟩
    have ld2 : F.le (del1 F9 b6) := le_del1 (l7.trans l9) f6
    have hd2 := ha.le ld2
    rw [ea] at hd2
    have hf2 := fixed_spec hd2 ka sa w.toNat true
    rw [hw] at hf2
    refine (callD hf2 q9).mono ?_
    rintro _ F10 ⟨z1, rfl, ⟨G1, hz1, lG1, gG1⟩, l10, q10⟩
    have d0 := hz0.beside (lG0.trans l10) gG0
    have d1 := hz1.beside lG1 gG1
    have size0 := hz0.size
    have size1 := hz1.size
    clear hz0 hz1
    obtain ⟨s0, rfl, r0⟩ := d0
    obtain ⟨s1, rfl, r1⟩ := d1
    refine ⟨_, rfl, rfl, rfl, rfl, ?_⟩
    obtain ⟨k0, _, _⟩ := fx_facts w.toNat false ka
    obtain ⟨k1, _, _⟩ := fx_facts w.toNat true ka
    have n0 := fx_length (w := w.toNat) (b := false) ka
    have n1 := fx_length (w := w.toNat) (b := true) ka
    have hlen := ap_length (o := oOr3) k0 k1 (d := leaf false) trivial
    have hpf := prod_fit (a := (subs (fx w.toNat false (tre a))).length) (b := (subs (fx w.toNat true (tre a))).length) (c := (subs (leaf false)).length) (by omega) (by omega) (by simp [subs, vis])
    have hcm := combine_spec (F := del1 F10 b6) (s0 := s0) (s1 := s1) (s2 := Sl.nil) (t0 := fx w.toNat false (tre a)) (t1 := fx w.toNat true (tre a)) (t2 := leaf false) (opv := .func (.func 73) #[] #[]) (o := oOr3)
      r0 r1 (RdS.nil _ _) k0 k1 trivial (by omega) (by omega) (by simp [subs, vis]) (by omega) (op73 _)
    refine (callD hcm q10).mono ?_
    rintro _ F11 ⟨z, rfl, ⟨G, hz, lG, gG⟩, l11, q11⟩
    refine ⟨_, rfl, ?_⟩
    rw [e]
    refine (callDR (limited_spec (hz.beside lG gG)) q11).mono ?_
    rintro _ F12 ⟨z', rfl, ⟨G', hz', lG', gG'⟩, l12, q12⟩
    exact ⟨_, _, rfl, retDR hz' lG' gG' q12 rfl (l7.trans (l9.trans (l10.trans (l11.trans l12)))) f6⟩

/-! Holds -/
/-- A configuration that is given as a number. -/
def cfg (c : Int) : Cf := fun i => c.toNat.testBit i
theorem wu64_eq {x : Int} (h1 : 0 ≤ x) (h2 : x < 18446744073709551616) : IntKind.u64.wrap x = x := by
  unfold IntKind.wrap
  simp only [IntKind.bits, IntKind.signed]
  simp only [Bool.false_and, Bool.false_eq_true, if_false]
  omega
theorem fdiv_pow (n v : Nat) : Int.fdiv (n : Int) (2 ^ v) = ((n / 2 ^ v : Nat) : Int) := by
  have e2 : (2 : Int) ^ v = ((2 ^ v : Nat) : Int) := by simp
  rw [e2, Int.fdiv_eq_ediv_of_nonneg _ (Int.natCast_nonneg _)]
  rfl
theorem ofInt_nat (n : Nat) (h : n < 18446744073709551616) : (BitVec.ofInt (IntKind.u64).bits (n : Int)).toNat = n := by
  show (BitVec.ofInt 64 (n : Int)).toNat = n
  rw [BitVec.toNat_ofInt]
  omega
theorem bit_test {c : Int} (h0 : 0 ≤ c) (h1 : c < 18446744073709551616) {v : Nat} (hv : v < 64) :
    (IntKind.u64.wrap ((BitVec.ofInt (IntKind.u64).bits (Int.fdiv c (2 ^ (min (Int.toNat (v : Int)) (IntKind.u64).bits))) &&& BitVec.ofInt (IntKind.u64).bits (1 : Int)).toNat)) = (1 : Int) ↔ cfg c v = true := by
  obtain ⟨n, rfl⟩ := Int.eq_ofNat_of_zero_le h0
  have hm : min (Int.toNat (v : Int)) (IntKind.u64).bits = v := by simp only [IntKind.bits, Int.toNat_natCast]; omega
  rw [hm, fdiv_pow, BitVec.toNat_and]
  have hle : n / 2 ^ v ≤ n := Nat.div_le_self _ _
  have h1' : (BitVec.ofInt (IntKind.u64).bits (1 : Int)).toNat = 1 := ofInt_nat 1 (by omega)
  rw [ofInt_nat _ (by omega), h1', Nat.and_one_is_mod, wu64_eq (by omega) (by omega)]
  unfold cfg
  rw [Int.toNat_natCast, Nat.testBit_eq_decide_div_mod_eq, decide_eq_true_iff]
  omega
noncomputable def holdsD (a : Dia) (c : Int) : Bool := open Classical in if chk a ≠ 0 then false else (tre a).ev (cfg c)
theorem holds_spec (ha : DV F v a) {c : Int} (h0 : 0 ≤ c) (h1 : c < 18446744073709551616) : Spec prog 21 #[.agg v, .int .u64 c] F fun r F' => r = .bool (holdsD a c) ∧ F.le F' := by
  have ha' := ha
  obtain ⟨s, rfl, hr⟩ := ha
  refine c21 ?_
  unfold b21
  intro b2 hb2
  refine atI ?_
  have l2 := le_set_fresh (.cells #[s.v, vi a.2] 28) hb2
  have q2 := set_eq F b2 (.cells #[s.v, vi a.2] 28)
  generalize F.set b2 (.cells #[s.v, vi a.2] 28) = F2 at *
  refine ⟨_, rfl, row_whole q2, ?_⟩
  refine (check_spec (ha'.le l2)).mono ?_
  rintro _ F3 ⟨rfl, l3⟩
  refine ⟨_, rfl, fun h => ?_, fun h => ?_⟩
  · refine ⟨?_, l2.trans l3⟩
    unfold holdsD
    rw [if_pos h]
  · obtain ⟨ka, ea, la⟩ := chk0 (by omega : chk a = 0)
    have hT := subs_cl ka
    have hr' : RdS F s 3 (bflat (brs (subs (tre a)))) := by rw [ea] at hr; exact hr
    have hlen := hr'.blen
    rw [brs_length] at hlen
    have hsl := subs_tre (by omega : chk a = 0)
    have e2 : a.2 = (num (subs (tre a)) (tre a) : Int) := by conv => lhs; rw [ea]
                                                             rfl
    have he : holdsD a c = (tre a).ev (cfg c) := by unfold holdsD; rw [if_neg h]
    refine ⟨a.2, by rw [cell_eq (l3 _ _ q2)]; rfl, ?_⟩
    refine ⟨fun m i F' => ∃ t', i = (num (subs (tre a)) t' : Int) ∧ inn (subs (tre a)) t' ∧ m = t'.sz ∧ F3.le F' ∧ t'.ev (cfg c) = (tre a).ev (cfg c), (tre a).sz, ⟨tre a, e2, subs_inn ka, rfl, PH.le_rfl, rfl⟩, ?_⟩
    rintro m i F4 ⟨t', rfl, hin, rfl, l4, hev⟩
    unfold b21L1
    refine ⟨fun hlt => ?_, fun hge => ?_⟩
    · cases t' with
      | leaf x => have := num_leaf_le (subs (tre a)) x; omega
      | node w l r =>
        obtain ⟨il, ir⟩ := hT.inn_kids hin
        obtain ⟨o1, _⟩ := hT.inn_ok hin
        have hg := num_ge (S := subs (tre a)) (t := node w l r) rfl
        have hnl := num_le hin
        have hw := w64m2 (n := num (subs (tre a)) (node w l r)) (by omega) hg
        obtain ⟨p, hp, hrow, _⟩ := rdb (hr'.le (l2.trans (l3.trans l4))) (brs_get (num_get (inn_mem hin rfl) rfl))
        refine ⟨s, by rw [cell_eq (l4 _ _ (l3 _ _ q2))]; rfl, p, hp, by rw [hw]; omega, by rw [hw]; omega, barr (br (subs (tre a)) (node w l r)), rfl, by rw [hw]; exact hrow, ?_⟩
        intro b6 hb6
        refine atI ?_
        refine stW (set_eq _ _ _) rfl rfl (st_barr _) ?_
        rw [set_twice]
        have l6 := l4.trans (le_set_fresh (.cells (barr (br (subs (tre a)) (node w l r))) 72) hb6)
        refine ⟨(w : Int), by rw [cell_eq (set_eq _ _ _)]; rfl, by omega, fun hb => ?_, fun hb => ?_⟩
        · have hb' := (bit_test h0 h1 o1).1 hb
          refine ⟨_, by rw [cell_eq (set_eq _ _ _)]; rfl, r.sz, by simp only [sz]; omega, r, rfl, ir, rfl, l6, ?_⟩
          rw [← hev]
          simp [Tr.ev, hb']
        · have hb' : ¬ cfg c w = true := fun hc => hb ((bit_test h0 h1 o1).2 hc)
          refine ⟨_, by rw [cell_eq (set_eq _ _ _)]; rfl, l.sz, by simp only [sz]; omega, l, rfl, il, rfl, l6, ?_⟩
          rw [← hev]
          simp [Tr.ev, hb']
    · unfold b21j1
      refine ⟨?_, l2.trans (l3.trans l4)⟩
      rw [he, ← hev]
      cases t' with
      | leaf x => cases x <;> simp [num, Tr.ev]
      | node w l r => have := num_ge (S := subs (tre a)) (t := node w l r) rfl; omega
end
end Go.Proofs.Ytafojmoeaneedaa

/-
  The disk: the calls of the laws, with what they leave; prepared, contents, sanity.
-/
import Derived.Test.YthnolhcknhhipaaDe
import Derived.Test.YthnolhcknhhipaaGc
namespace Go.Proofs.Ythnolhcknhhipaa
open Go Go.Proofs.Try

theorem le_mns_new {F G : PH} {fp : Nat → Prop} (h : F.le G) (hf : ∀ b, fp b → F b = none) : F.le (mns G fp) := fun b o hb => by
  rw [mns_of (fun hp => by rw [hf b hp] at hb; cases hb)]
  exact h b o hb
theorem Step.fresh {F F1 F2 : PH} {fp fq : Nat → Prop} (h : Step fp F1 fq F2) (hle : F.le F1) (hf : ∀ b, fp b → F b = none) : F.le F2 ∧ ∀ b, fq b → F b = none := by
  refine ⟨fun b o hb => h.keep b o (hle b o hb) (fun hp => by rw [hf b hp] at hb; cases hb), fun b hb => ?_⟩
  rcases h.new b hb with h1 | h1
  · exact hf b h1
  · exact le_none hle h1
theorem mns_mono {F G : PH} {fp : Nat → Prop} (h : F.le G) : (mns F fp).le (mns G fp) := (Step.of_le h).le
theorem rd_new {F : PH} {fp : Nat → Prop} {g n e : Nat} {l : List Value} {tl : List Value} (hg : F g = some (.cells (l ++ tl).toArray e (0, 0))) (hn : ¬ fp g) (hl : l.length = n) {cap : Nat} (hc : n ≤ cap) : RdS (mns F fp) ⟨some ⟨g, 0, none⟩, n, cap⟩ 1 l :=
  RdS.new (c := (l ++ tl).toArray) (e := e) (fr := (0, 0)) (by rw [mns_of hn]; exact hg) (by subst hl; simp) (by simp [hl]) hc

section
variable {F : PH} {d n : Nat} {fp : Nat → Prop} {s : DS}

theorem filled_new (F : PH) {b : Int} : Spec prog 15 #[.int .u8 b] F fun v F' => ∃ sl, v = Sl.v sl ∧ sl.len = 64 ∧ sl.cap = 64 ∧ RdS (mns F' (old F)) sl 1 (u8s (List.replicate 64 b)) ∧ F.le F' :=
  (filled_spec b F).mono fun v F' ⟨g, hg, hv, hF⟩ => by
    subst hF
    have hle := le_set_fresh (.cells (u8s (List.replicate 64 b)).toArray 5) hg
    exact ⟨_, hv, rfl, rfl, rd_new (tl := []) (e := 5) (by rw [set_eq]; simp) (fun hp => hp hg) (by simp) (Nat.le_refl _), hle⟩
theorem read_new (h : DRep F d fp n s) {at_ : Int} : Spec prog 16 #[.pointer (some ⟨d, 0, none⟩), .int .i64 at_] F fun v F' =>
    ∃ sl, v = .tuple #[Sl.v sl, .int .i64 (s.read n at_).2] ∧ RdS (mns F' (old F)) sl 1 (u8s (s.read n at_).1) ∧ F.le F' :=
  (read_spec h).mono fun v F' ⟨hle, hc⟩ => by
    rcases hc with ⟨e, hv, hr, _⟩ | ⟨g, l, hg, hv, hgl, hr, hl⟩
    · exact ⟨Sl.nil, by rw [hv, hr], by rw [hr]; exact RdS.nil _ _, hle⟩
    · exact ⟨_, by rw [hv, hr], by rw [hr]; exact rd_new (tl := []) (e := 5) (by rw [hgl]; simp) (fun hp => hp hg) (by simp [hl]) (Nat.le_refl _), hle⟩
theorem filled_with (h : DRep F d fp n s) {b : Int} : Spec prog 15 #[.int .u8 b] F fun v F' => ∃ sl, v = Sl.v sl ∧ sl.len = 64 ∧ sl.cap = 64 ∧ RdS (mns F' fp) sl 1 (u8s (List.replicate 64 b)) ∧ DRep F' d fp n s ∧ Step fp F fp F' :=
  (filled_spec b F).mono fun v F' ⟨g, hg, hv, hF⟩ => by
    subst hF
    have hle := le_set_fresh (.cells (u8s (List.replicate 64 b)).toArray 5) hg
    exact ⟨_, hv, rfl, rfl, rd_new (tl := []) (e := 5) (by rw [set_eq]; simp) (fun hp => h.dom g hp hg) (by simp) (Nat.le_refl _), h.le hle, Step.of_le hle⟩
theorem read_with (h : DRep F d fp n s) {at_ : Int} : Spec prog 16 #[.pointer (some ⟨d, 0, none⟩), .int .i64 at_] F fun v F' =>
    ∃ sl, v = .tuple #[Sl.v sl, .int .i64 (s.read n at_).2] ∧ RdS (mns F' fp) sl 1 (u8s (s.read n at_).1) ∧ DRep F' d fp n s ∧ Step fp F fp F' ∧ F.le F' :=
  (read_spec h).mono fun v F' ⟨hle, hc⟩ => by
    rcases hc with ⟨e, hv, hr, _⟩ | ⟨g, l, hg, hv, hgl, hr, hl⟩
    · exact ⟨Sl.nil, by rw [hv, hr], by rw [hr]; exact RdS.nil _ _, h.le hle, Step.of_le hle, hle⟩
    · exact ⟨_, by rw [hv, hr], by rw [hr]; exact rd_new (tl := []) (e := 5) (by rw [hgl]; simp) (fun hp => h.dom g hp hg) (by simp [hl]) (Nat.le_refl _), h.le hle, Step.of_le hle, hle⟩
theorem same_with {a b : Sl} {x y : List Int} (ha : RdS (mns F fp) a 1 (u8s x)) (hb : RdS (mns F fp) b 1 (u8s y)) (hl : x.length < 9223372036854775807) :
    Spec prog 18 #[a.v, b.v] F fun v F' => v = .bool (decide (x = y)) ∧ F' = F := same_spec (ha.le (mns_le _ _)) (hb.le (mns_le _ _)) hl

/-! prepared -/
structure OpD where
  kind : Int
  at_ : Int
  fill : Int
  long : Int
  ksl : Sl
  kept : List Int
def OpD.cells (o : OpD) : List Value := [.int .u8 o.kind, .int .i64 o.at_, .int .u8 o.fill, .int .i64 o.long, Sl.v o.ksl]
structure OpsRd (F : PH) (l : Sl) (ops : List OpD) : Prop where
  rd : RdS F l 5 (ops.flatMap OpD.cells)
  len : l.len = ops.length
  kept : ∀ o ∈ ops, RdS F o.ksl 1 (i64s o.kept)
  kl : ∀ o ∈ ops, o.ksl.len * 8 ≤ 140737488355328
  kind : ∀ o ∈ ops, 0 ≤ o.kind ∧ o.kind ≤ 255
  at_ : ∀ o ∈ ops, -9223372036854775808 ≤ o.at_ ∧ o.at_ ≤ 9223372036854775807
  long : ∀ o ∈ ops, -9223372036854775808 ≤ o.long ∧ o.long ≤ 9223372036854775807
  big : ops.length < 9223372036854775807
theorem OpsRd.le {F G : PH} {l : Sl} {ops : List OpD} (h : OpsRd F l ops) (hl : F.le G) : OpsRd G l ops := ⟨h.rd.le hl, h.len, fun o ho => (h.kept o ho).le hl, h.kl, h.kind, h.at_, h.long, h.big⟩
theorem ops_at : ∀ {ops : List OpD} {k j : Nat}, (hk : k < ops.length) → j < 5 → (ops.flatMap OpD.cells)[k * 5 + j]? = (ops[k].cells)[j]? := by
  intro ops
  induction ops with
  | nil => intro k j hk; simp at hk
  | cons o ops ih =>
    intro k j hk hj
    have hl : o.cells.length = 5 := rfl
    rw [List.flatMap_cons]
    cases k with
    | zero =>
      rw [Nat.zero_mul, Nat.zero_add, List.getElem?_append_left (by rw [hl]; exact hj)]
      rfl
    | succ k =>
      rw [List.getElem?_append_right (by rw [hl]; omega), hl, show (k + 1) * 5 + j - 5 = k * 5 + j by omega, ih (by simpa using hk) hj]
      rfl
/-- Field j of operation k. -/
theorem OpsRd.field {l : Sl} {ops : List OpD} (h : OpsRd F l ops) {k : Nat} (hk : k < ops.length) : ∃ b o, l.base = some ⟨b, o, none⟩ ∧ ∀ j v, (ops[k].cells)[j]? = some v → F.cell ⟨b, o + (k * 5 + j), none⟩ = some v := by
  have hlen : (ops.flatMap OpD.cells).length = ops.length * 5 := by rw [h.rd.len, h.len]
  obtain ⟨b, o, hb, hc⟩ := h.rd.cells (by rw [h.len]; omega)
  refine ⟨b, o, hb, fun j v hj => ?_⟩
  have hj5 : j < 5 := (List.getElem?_eq_some_iff.1 hj).1
  have hlt : k * 5 + j < (ops.flatMap OpD.cells).length := by rw [hlen]; omega
  rw [hc _ hlt]
  have := ops_at hk hj5
  rw [List.getElem?_eq_getElem hlt, hj] at this
  exact this

def mod4 (x : Int) : Int := Int.tmod (Int.tmod x 4 + 4) 4
theorem tmod4 (x : Int) : -3 ≤ Int.tmod x 4 ∧ Int.tmod x 4 ≤ 3 := by
  have h1 := Int.lt_tmod_of_pos x (b := 4) (by decide)
  have h2 := Int.tmod_lt_of_pos x (b := 4) (by decide)
  omega
theorem mod4_range (x : Int) : 0 ≤ mod4 x ∧ mod4 x ≤ 3 := by
  have h := tmod4 x
  unfold mod4
  have h1 := Int.tmod_nonneg 4 (show 0 ≤ Int.tmod x 4 + 4 by omega)
  have h2 := Int.tmod_lt_of_pos (Int.tmod x 4 + 4) (b := 4) (by decide)
  omega
theorem mod4_wrap (x : Int) : Int.tmod (IntKind.i64.wrap (Int.tmod x 4 + 4)) 4 = mod4 x := by
  have h := tmod4 x
  rw [w64_eq (by omega) (by omega)]
  rfl
def prepStep (s : DS) (o : OpD) : DS := if Int.tmod o.kind 10 = 4 then s.flush.1 else (s.write 4 (mod4 o.at_) (List.replicate 64 o.fill)).1
def prep0 : DS := ⟨List.replicate 256 0, [], false, 0, []⟩
def prep (ops : List OpD) : DS := (ops.take 20).foldl prepStep prep0

theorem DS.ready_ws (s : DS) : s.ready.1.ws.length ≤ s.ws.length := by
  unfold DS.ready
  split
  · exact Nat.le_refl _
  · split
    · unfold DS.crash
      split
      · exact Nat.le_refl _
      · exact Nat.zero_le _
    · exact Nat.le_refl _
theorem DS.write_ws (s : DS) (n : Nat) (a : Int) (l : List Int) : (s.write n a l).1.ws.length ≤ s.ws.length + 1 := by
  have := s.ready_ws
  unfold DS.write
  split
  · exact Nat.le_succ _
  · split
    · omega
    · simp; omega
theorem DS.flush_ws (s : DS) : s.flush.1.ws.length ≤ s.ws.length := by
  have := s.ready_ws
  unfold DS.flush
  split
  · omega
  · simp

theorem prepared_spec {l : Sl} {ops : List OpD} (h : OpsRd F l ops) : Spec prog 11 #[l.v] F fun v F' => ∃ d fp, v = .pointer (some ⟨d, 0, none⟩) ∧ F.le F' ∧ DRep F' d fp 4 (prep ops) ∧ (∀ b, fp b → F b = none) ∧ (prep ops).ws.length ≤ 20 := by
  refine c11 ?_
  unfold b11
  refine (new_spec F (by decide) (by decide)).mono ?_
  rintro v F1 (⟨h1, _⟩ | ⟨h1, _⟩ | ⟨_, _, d, fp, rfl, hle, hrep, hnew⟩)
  · omega
  · omega
  refine ⟨_, _, rfl, ?_⟩
  refine ⟨fun m i F' => ∃ k fp, i = (k : Nat) ∧ k ≤ 20 ∧ k ≤ ops.length ∧ m = 20 - k ∧ F.le F' ∧ DRep F' d fp 4 ((ops.take k).foldl prepStep prep0) ∧ (∀ b, fp b → F b = none) ∧ ((ops.take k).foldl prepStep prep0).ws.length ≤ k,
    20, ⟨0, fp, rfl, by omega, by omega, rfl, hle, hrep, hnew, Nat.le_refl 0⟩, ?_⟩
  rintro m i F' ⟨k, fp, rfl, hk, hk2, rfl, hle, hrep, hnew, hws⟩
  unfold b11L1
  have hlen := h.len
  have hbig := h.big
  have fin : ∀ (hd : ops.take k = ops.take 20), b11j1 (some ⟨d, 0, none⟩) (fun v F' => ∃ d fp, v = .pointer (some ⟨d, 0, none⟩) ∧ F.le F' ∧ DRep F' d fp 4 (prep ops) ∧ (∀ b, fp b → F b = none) ∧ (prep ops).ws.length ≤ 20) F' := by
    intro hd
    unfold b11j1
    refine ⟨d, fp, rfl, hle, ?_, hnew, ?_⟩
    · rw [prep, ← hd]; exact hrep
    · rw [prep, ← hd]; omega
  refine ⟨fun hlt => ⟨fun hlt2 => ?_, fun hge => ?_⟩, fun hge => ?_⟩
  · have hk' : k < ops.length := by omega
    have hmem : ops[k] ∈ ops := List.getElem_mem _
    have h' := h.le hle
    obtain ⟨b, o, hb, hc⟩ := h'.field hk'
    have htake : (ops.take (k + 1)).foldl prepStep prep0 = prepStep ((ops.take k).foldl prepStep prep0) ops[k] := by
      rw [List.take_succ_eq_append_getElem hk', List.foldl_append]
      rfl
    generalize hs : (ops.take k).foldl prepStep prep0 = s at *
    refine ⟨_, hb, by omega, hlt, ops[k].kind, ?_, fun h4 => ?_, fun h4 => ?_⟩
    · have := hc 0 _ rfl
      simpa using this
    · refine (flush_spec hrep).mono ?_
      rintro v F2 ⟨rfl, fq, hrep2, hst⟩
      refine ⟨_, rfl, ?_⟩
      obtain ⟨hle2, hnew2⟩ := hst.fresh hle hnew
      have hf := s.flush_ws
      have e : prepStep s ops[k] = s.flush.1 := by unfold prepStep; rw [if_pos h4]
      refine ⟨20 - (k + 1), by omega, k + 1, fq, w64s (by omega), by omega, by omega, rfl, hle2, ?_, hnew2, ?_⟩
      · rw [htake, e]; exact hrep2
      · rw [htake, e]; omega
    · have hat := hc 1 _ rfl
      have hfill := hc 2 _ rfl
      have c1 : F'.cell (Addr.add (Addr.add ⟨b, o, none⟩ (Int.toNat (k : Int) * 5)) 1) = some (.int .i64 ops[k].at_) := by simpa [Nat.add_assoc] using hat
      refine ⟨_, hb, by omega, hlt, _, c1, _, hb, by omega, hlt, ops[k].fill, by simpa [Nat.add_assoc] using hfill, ?_⟩
      refine (filled_with hrep).mono ?_
      rintro v F2 ⟨sl, rfl, hl64, hc64, hrd, hrep2, hst⟩
      have c2 : F2.cell (Addr.add (Addr.add ⟨b, o, none⟩ (Int.toNat (k : Int) * 5)) 1) = some (.int .i64 ops[k].at_) := by
        obtain ⟨hle2, _⟩ := hst.fresh hle hnew
        obtain ⟨b', o', hb', hc'⟩ := (h.le hle2).field hk'
        rw [hb] at hb'
        cases hb'
        simpa [Nat.add_assoc] using hc' 1 _ rfl
      refine ⟨sl, rfl, c2, ?_⟩
      rw [mod4_wrap]
      refine (write_spec hrep2 hrd (by omega) (by simp)).mono ?_
      rintro v F3 ⟨rfl, fq, hrep3, hst3⟩
      have hst' := hst.trans hst3
      obtain ⟨hle3, hnew3⟩ := hst'.fresh hle hnew
      have c3 : F3.cell (Addr.add (Addr.add ⟨b, o, none⟩ (Int.toNat (k : Int) * 5)) 1) = some (.int .i64 ops[k].at_) := by
        obtain ⟨b', o', hb', hc'⟩ := (h.le hle3).field hk'
        rw [hb] at hb'
        cases hb'
        simpa [Nat.add_assoc] using hc' 1 _ rfl
      refine ⟨_, rfl, c3, ?_⟩
      have hf := s.write_ws 4 (mod4 ops[k].at_) (List.replicate 64 ops[k].fill)
      have e : prepStep s ops[k] = (s.write 4 (mod4 ops[k].at_) (List.replicate 64 ops[k].fill)).1 := by unfold prepStep; rw [if_neg h4]
      refine ⟨20 - (k + 1), by omega, k + 1, fq, w64s (by omega), by omega, by omega, rfl, hle3, ?_, hnew3, ?_⟩
      · rw [htake, e]; exact hrep3
      · rw [htake, e]; omega
  · have : k = 20 := by omega
    exact fin (by rw [this])
  · refine fin ?_
    rw [List.take_of_length_le (by omega), List.take_of_length_le (by omega)]

/-! contents -/
theorem own_append0 {F : PH} {s x : Sl} {t e size bytes ty : Nat} {z : Value} {P : Program} {olds news : List Value} {Q : Value → PH → Prop} (ht : P.underlying t = some (.slice e)) (hsz : tsz P e = some (size, bytes)) (hz : tzero P e = some z) (hzs : z.cells.size = size)
    (ho : OwnS F e size s olds) (hn : RdS F x size news) (hx : x.len = 0) (hfit : s.len * bytes ≤ 140737488355328) (hlen : s.len ≤ 9223372036854775807)
    (h : Q s.v F) : runs P (Builtin.append_ #[t, t] ty #[s.v, x.v]) F Q := by
  have hnil : news = [] := List.eq_nil_of_length_eq_zero (by rw [hn.len, hx, Nat.zero_mul])
  subst hnil
  refine runs_append ht hsz hz hzs ho.rd hn (by simp) (by rw [hx]; exact hfit) (by rw [hx]; exact hlen) (fun _ _ => ?_) (fun h1 => ?_) (fun h1 => ?_)
  · rw [hx]; exact h
  · rw [hx] at h1; simp at h1
  · have := ho.rd.cap; omega

def DS.view (s : DS) : Nat → List Int
  | 0 => []
  | k + 1 => s.view k ++ (s.read 4 k).1
theorem DS.read_len {s : DS} {n : Nat} {at_ : Int} (h : s.ok n) : (s.read n at_).1.length ≤ 64 := by
  unfold DS.read
  split
  · simp
  · split
    · simp
    · rename_i h1 h2
      rw [rdN_len h.ws]
      · exact Nat.le_refl _
      · simp [DS.sect, h.dur]; omega
theorem DS.view_len {s : DS} (h : s.ok 4) : ∀ k, (s.view k).length ≤ k * 64
  | 0 => by simp [DS.view]
  | k + 1 => by
    have h1 := DS.view_len h k
    have h2 := DS.read_len (at_ := (k : Int)) h
    simp only [DS.view, List.length_append]
    omega

theorem contents_new (h : DRep F d fp 4 s) : Spec prog 12 #[.pointer (some ⟨d, 0, none⟩)] F fun v F' => ∃ sl, v = Sl.v sl ∧ RdS (mns F' (old F)) sl 1 (u8s (s.view 4)) ∧ F.le F' := by
  refine c12 ?_
  unfold b12
  intro b7 hb7
  refine atI ?_
  have hle0 := le_set_fresh (.cells #[] 5) hb7
  refine ⟨fun m out i F' => ∃ k : Nat, i = k ∧ k ≤ 4 ∧ m = 4 - k ∧ F.le F' ∧ OwnS F' 5 1 out (u8s (s.view k)) ∧ (∀ a, out.base = some a → F a.block = none), 4,
    ⟨0, rfl, by omega, rfl, hle0, .inr ⟨b7, #[], rfl, set_eq _ _ _, by simp, by simp, by simp [DS.view], by simp [DS.view]⟩, fun a ha => by cases ha; exact hb7⟩, ?_⟩
  rintro m out i F' ⟨k, rfl, hk, rfl, hle, hown, hnew⟩
  unfold b12L1
  have hol := hown.rd.len
  have hvl := DS.view_len h.ok k
  simp at hol
  refine ⟨fun hlt => ?_, fun hge => ?_⟩
  · have hrep' := h.le hle
    refine (read_with hrep').mono ?_
    rintro v F2 ⟨sl, rfl, hrd, hrep2, hst, hF2⟩
    have hrl := DS.read_len (at_ := (k : Int)) h.ok
    have hsl := hrd.len
    simp at hsl
    refine ⟨sl, _, rfl, ?_⟩
    have hown2 : OwnS F2 5 1 out (u8s (s.view k)) := hown.keepK (fp := fun _ => False) (Keep.of_le hF2) (fun _ _ h => h)
    have hrd2 := hrd.le (mns_le _ _)
    have hv : u8s (s.view (k + 1)) = u8s (s.view k) ++ u8s (s.read 4 k).1 := by simp [DS.view]
    by_cases h0 : sl.len = 0
    · refine own_append0 underlying26 sz5 zr5 rfl hown2 hrd2 h0 (by omega) (by omega) ?_
      refine ⟨out, rfl, 4 - (k + 1), by omega, k + 1, w64s (by omega), by omega, rfl, le_trans' hle hF2, ?_, hnew⟩
      have : (s.read 4 k).1 = [] := List.eq_nil_of_length_eq_zero (by omega)
      rw [hv, this]
      simpa using hown2
    · refine own_append underlying26 sz5 zr5 rfl (by decide) hown2 hrd2 (by omega) st_u8s (by omega) (by omega) ?_
      rintro s' F3 b ob rfl hown3 hlen3 hbase hblk
      have hb : F b = none := by
        rcases hblk with ⟨a, ha, rfl⟩ | hb
        · exact hnew a ha
        · exact le_none (le_trans' hle hF2) hb
      refine ⟨s', rfl, 4 - (k + 1), by omega, k + 1, w64s (by omega), by omega, rfl, ?_, by rw [hv]; exact hown3, fun a ha => by rw [hbase a ha]; exact hb⟩
      intro y o hy
      have : y ≠ b := fun e => by rw [e, hb] at hy; cases hy
      rw [set_ne _ _ this]
      exact le_trans' hle hF2 _ _ hy
  · obtain rfl : k = 4 := by omega
    unfold b12j1
    refine ⟨out, rfl, ?_, hle⟩
    have : OwnS (mns F' (old F)) 5 1 out (u8s (s.view 4)) := hown.keep (fun a ha => mns_of (fun hp => hp (hnew a ha)))
    exact this.rd
theorem contents_with (h : DRep F d fp 4 s) : Spec prog 12 #[.pointer (some ⟨d, 0, none⟩)] F fun v F' => ∃ sl, v = Sl.v sl ∧ RdS (mns F' fp) sl 1 (u8s (s.view 4)) ∧ DRep F' d fp 4 s ∧ Step fp F fp F' :=
  (contents_new h).mono fun _ _ ⟨sl, hv, hr, hle⟩ => ⟨sl, hv, hr.le (new_le h.dom), h.le hle, Step.of_le hle⟩
end
end Go.Proofs.Ythnolhcknhhipaa

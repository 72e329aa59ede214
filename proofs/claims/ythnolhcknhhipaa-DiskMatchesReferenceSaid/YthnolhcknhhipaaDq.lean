/-
  The disk: the reference's states stand for the same model; a part of a row over another row; the reference's crash.
-/
import Derived.Test.YthnolhcknhhipaaDn
import Derived.Test.YthnolhcknhhipaaGb
namespace Go.Proofs.Ythnolhcknhhipaa
open Go Go.Proofs.Try

theorem own_app {F0 F : PH} {s x : Sl} {t e size bytes ty : Nat} {z : Value} {P : Program} {olds news : List Value} {Q : Value → PH → Prop} (ht : P.underlying t = some (.slice e)) (hsz : tsz P e = some (size, bytes)) (hz : tzero P e = some z) (hzs : z.cells.size = size) (hs0 : 0 < size)
    (hle : F0.le F) (ho : OwnS F e size s olds) (hnew : ∀ a, s.base = some a → F0 a.block = none) (hn : RdS F x size news) (hst : ∀ v ∈ news, storable v) (hfit : (s.len + x.len) * bytes ≤ 140737488355328) (hlen : s.len + x.len ≤ 9223372036854775807)
    (h : ∀ s' F', F0.le F' → OwnS F' e size s' (olds ++ news) → s'.len = s.len + x.len → (∀ a, s'.base = some a → F0 a.block = none) → Keep (fun b => ∃ a, s.base = some a ∧ a.block = b) F F' → (∀ a, s'.base = some a → (∃ a', s.base = some a' ∧ a'.block = a.block) ∨ F a.block = none) → Q s'.v F') :
    runs P (Builtin.append_ #[t, t] ty #[s.v, x.v]) F Q := by
  by_cases h0 : x.len = 0
  · have hnil : news = [] := List.eq_nil_of_length_eq_zero (by rw [hn.len, h0, Nat.zero_mul])
    refine own_append0 ht hsz hz hzs ho hn h0 (by rw [h0] at hfit; exact hfit) (by omega) ?_
    refine h s F hle (by rw [hnil, List.append_nil]; exact ho) (by omega) hnew (Keep.refl _ _) (fun a ha => .inl ⟨a, ha, rfl⟩)
  · refine own_append ht hsz hz hzs hs0 ho hn (by omega) hst hfit hlen ?_
    rintro s' F' b ob rfl ho' hl' hbase hb
    have hb0 : F0 b = none := by
      rcases hb with ⟨a, ha, rfl⟩ | hb
      · exact hnew a ha
      · exact le_none hle hb
    refine h s' _ (fun y o hy => ?_) ho' hl' (fun a ha => by rw [hbase a ha]; exact hb0) (fun y o hy hn => ?_) (fun a ha => ?_)
    · rw [set_ne _ _ (fun e => by rw [e, hb0] at hy; cases hy)]; exact hle _ _ hy
    · rw [set_ne]
      · exact hy
      · rintro rfl
        rcases hb with hb | hb
        · exact hn hb
        · rw [hb] at hy; cases hy
    · rw [hbase a ha]
      exact hb
theorem row_whole {F : PH} {b e : Nat} {c : Array Value} {fr : Nat × Nat} (h : F b = some (.cells c e fr)) : F.row (Addr.mk b 0 none) c := by
  intro i hi
  rw [add_mk, cell_eq h]
  simp
theorem ret5 {F : PH} {b4 e1 : Nat} {c4 : Array Value} {K : Array Value → PH → Prop} (cs : Array Value) (hs : cs.size = 5) (hst : ∀ v ∈ cs.toList, storable v) (h4 : F b4 = some (.cells c4 e1 (0, 0))) (hc4 : c4.size = 5) (hk : K cs (F.set b4 (.cells cs e1))) :
    cs.size = 5 ∧ (∀ v ∈ cs.toList, storable v) ∧ ∃ c e, F (Addr.mk b4 0 none).block = some (.cells c e (0, 0)) ∧ (Addr.mk b4 0 none).spot = none ∧ (Addr.mk b4 0 none).off + 5 ≤ c.size ∧
      atF (F.set (Addr.mk b4 0 none).block (.cells (wr c (Addr.mk b4 0 none).off cs.toList) e)) fun F => ∃ vres : Array Value, vres.size = 5 ∧ F.row (Addr.mk b4 0 none) vres ∧ K vres F :=
  stW h4 hs hc4 hst ⟨cs, hs, row_whole (set_eq _ _ _), hk⟩

/-! the reference's state -/
def pcell (p : Int × Sl) : List Value := [.int .i64 p.1, p.2.v]
structure RMem (F : PH) (cs : Array Value) (n : Nat) (s : DS) (SL : List Sl) (PL : List (Int × Sl)) (ssl psl ksl : Sl) : Prop where
  hc : cs = #[ssl.v, psl.v, .bool s.down, .int .i64 s.fuse, ksl.v]
  hs : RdS F ssl 1 (SL.map Sl.v)
  sl : SL.length = n
  sr : ∀ (i : Nat) (x : Sl), SL[i]? = some x → RdS F x 1 (u8s (sec s.dur i))
  hp : RdS F psl 2 (PL.flatMap pcell)
  pl : PL.length = s.ws.length
  pr : ∀ (k : Nat) (x : Int × Sl), PL[k]? = some x → ∃ w, s.ws[k]? = some w ∧ x.1 = w.1 ∧ RdS F x.2 1 (u8s w.2)
  hk : RdS F ksl 1 (i64s s.kept)
  ok : s.ok n
  kb : s.kept.length * 8 ≤ 140737488355328
def RRep (F : PH) (cs : Array Value) (n : Nat) (s : DS) : Prop := ∃ SL PL ssl psl ksl, RMem F cs n s SL PL ssl psl ksl
theorem RMem.le {F G : PH} {cs : Array Value} {n : Nat} {s : DS} {SL : List Sl} {PL : List (Int × Sl)} {ssl psl ksl : Sl} (h : RMem F cs n s SL PL ssl psl ksl) (hl : F.le G) : RMem G cs n s SL PL ssl psl ksl :=
  ⟨h.hc, h.hs.le hl, h.sl, fun i x hx => (h.sr i x hx).le hl, h.hp.le hl, h.pl, fun k x hx => by
    obtain ⟨w, h1, h2, h3⟩ := h.pr k x hx
    exact ⟨w, h1, h2, h3.le hl⟩, h.hk.le hl, h.ok, h.kb⟩
theorem RRep.le {F G : PH} {cs : Array Value} {n : Nat} {s : DS} (h : RRep F cs n s) (hl : F.le G) : RRep G cs n s := by
  obtain ⟨SL, PL, ssl, psl, ksl, h⟩ := h
  exact ⟨SL, PL, ssl, psl, ksl, h.le hl⟩
theorem RRep.size {F : PH} {cs : Array Value} {n : Nat} {s : DS} (h : RRep F cs n s) : cs.size = 5 := by
  obtain ⟨SL, PL, ssl, psl, ksl, h⟩ := h
  rw [h.hc]; rfl
theorem RRep.stor {F : PH} {cs : Array Value} {n : Nat} {s : DS} (h : RRep F cs n s) : ∀ v ∈ cs.toList, storable v := by
  obtain ⟨SL, PL, ssl, psl, ksl, h⟩ := h
  intro v hv
  rw [h.hc] at hv
  simp at hv
  rcases hv with rfl | rfl | rfl | rfl | rfl
  · exact st_sl
  · exact st_sl
  · exact st_bool
  · exact st_int
  · exact st_sl
theorem st_sls {l : List Sl} : ∀ v ∈ l.map Sl.v, storable v := by
  intro v hv
  obtain ⟨x, _, rfl⟩ := List.mem_map.1 hv
  exact st_sl

/-! the first bytes of one row, the others of another -/
theorem first_spec {F : PH} {o x : Sl} {O D : List Int} {k : Nat} (ho : RdS F o 1 (u8s O)) (hx : RdS F x 1 (u8s D)) (hO : O.length = 64) (hD : D.length = 64) (hk : k ≤ 64) :
    Spec prog 39 #[o.v, x.v, .int .i64 k] F fun v F' => ∃ sl, v = Sl.v sl ∧ F.le F' ∧ RdS (mns F' (old F)) sl 1 (u8s (D.take k ++ O.drop k)) := by
  refine c39 ?_
  unfold b39
  have hol := ho.len
  have hxl := hx.len
  simp [hO, hD] at hol hxl
  have hoc := ho.cap
  have hxc := hx.cap
  intro b8 hb8
  refine atI ?_
  refine ⟨by omega, by omega, by simp only [Int.toNat_natCast]; omega, ?_⟩
  simp only [Int.toNat_natCast]
  have hcut := hx.cut (l := 0) (r := k) (m := x.cap) (by omega) (by omega) (by omega)
  have he : (List.take ((k - 0) * 1) (List.drop (0 * 1) (u8s D))) = u8s (D.take k) := by simp [List.map_take]
  rw [he] at hcut
  refine clone_gen underlying26 sz5 zr5 rfl hb8 hcut st_u8s (by simp [Sl.cut]; omega) (by simp [Sl.cut]; omega) ?_
  intro s1 F1 hle1 hown1 hlen1 hnew1
  simp only [Sl.cut] at hlen1
  refine ⟨s1, rfl, by omega, by omega, hoc, ?_⟩
  have hcut2 := (ho.le hle1).cut (l := k) (r := o.len) (m := o.cap) (by omega) (by omega) (by omega)
  have he2 : (List.take ((o.len - k) * 1) (List.drop (k * 1) (u8s O))) = u8s (O.drop k) := by
    rw [Nat.mul_one, Nat.mul_one, List.take_of_length_le (by simp [hO]; omega)]
    simp [List.map_drop]
  rw [he2] at hcut2
  refine own_app (F0 := F) underlying26 sz5 zr5 rfl (by decide) hle1 hown1 hnew1 hcut2 st_u8s (by simp [Sl.cut]; omega) (by simp [Sl.cut]; omega) ?_
  intro s2 F2 hle2 hown2 hlen2 hnew2 _ _
  refine ⟨s2, rfl, s2, rfl, hle2, ?_⟩
  have h4 : OwnS (mns F2 (old F)) 5 1 s2 (u8s (D.take k ++ O.drop k)) := by
    rw [show u8s (D.take k ++ O.drop k) = u8s (D.take k) ++ u8s (O.drop k) by simp]
    exact hown2.keep (fun a ha => mns_of (fun hp => hp (hnew2 a ha)))
  exact h4.rd
end Go.Proofs.Ythnolhcknhhipaa

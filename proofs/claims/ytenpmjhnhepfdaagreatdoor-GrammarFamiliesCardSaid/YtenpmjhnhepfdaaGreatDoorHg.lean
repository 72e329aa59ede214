/-
  Check of grammars: productions, levels.
-/
import Derived.Test.YtenpmjhnhepfdaaGreatDoorHe
namespace Go.Proofs.YtenpmjhnhepfdaaGreatDoor
open Go Go.Proofs.Tryz
set_option maxRecDepth 10000
inductive Scl:TypeId→Value→Value→Bool→Prop
 |int {t:TypeId} {k:IntKind} {a b:Int}:prog.underlying t=some (.int k)→Scl t (.int k a) (.int k b) (decide (a=b))
 |bool {t:TypeId} {a b:Bool}:prog.underlying t=some .bool→Scl t (.bool a) (.bool b) (decide (a=b))
theorem Scl.eq {t:TypeId} {v w:Value} {r:Bool} (h:Scl t v w r) (d:Nat) (F:PH):rdo prog (Op.equalIn (d+1) t v w) F r:=by
 cases h with
 | @int k a b ht=>exact xB t k ht d a b
 | @bool a b ht=>
  simp only [Op.equalIn,ai]
  refine ⟨_,(av ht _).2 rfl,?_⟩
  show (a==b)=decide (a=b)
  cases a<;>cases b<;>rfl
theorem Scl.part {t:TypeId} {v w:Value} {r:Bool} (h:Scl t v w r) {cs:Array Value} {off:Nat} {x:Value} (hx:cs[off]? =some x) (F:PH):rdo prog (part t cs off) F x:=by
 have ha:∀d,prog.underlying t=some d→((∃k,d=.int k)∨d=.bool)→rdo prog (Go.part t cs off) F x:=fun d hd hk=>by
  unfold Go.part
  simp only [ai]
  refine ⟨false,(cR hd _).2 (by rcases hk with ⟨k,rfl⟩|rfl<;>rfl),?_⟩
  simp only [Bool.false_eq_true,if_false,hx]
  rfl
 cases h with
 | @int k a b ht=>exact ha _ ht (.inl ⟨k,rfl⟩)
 | @bool a b ht=>exact ha _ ht (.inr rfl)
theorem tP {t:TypeId} {fs:Array Field} (ht:prog.underlying t=some (.struct fs)) (hsi:prog.stoodInHeld t=false) {cs ds:Array Value} (e:Field→Bool)
  (hall:∀f∈fs.toList,f.name≠ "_"∧∃v w,cs[f.offset]? =some v∧ds[f.offset]? =some w∧Scl f.type v w (e f)) (F:PH):
  rdo prog (Op.equal t (.agg cs) (.agg ds)) F (fs.toList.all e):=by
 unfold Op.equal Op.maxDepth
 show rdo prog (Op.equalIn (9998+1+1) t _ _) _ _
 unfold Op.equalIn
 simp only [ai]
 refine ⟨_,(av ht _).2 rfl,?_⟩
 dsimp only
 rw [ai]
 refine ⟨prog,rfl,?_⟩
 rw [hsi]
 simp only [Bool.false_eq_true,if_false]
 rw [← Array.forIn_toList,ai]
 refine ⟨_,vL _ e _ fun f hf=> ?_,?_⟩
 ·obtain ⟨h1,v,w,h2,h3,h4⟩:=hall f hf
  rw [if_pos h1]
  simp only [ai]
  refine ⟨_,h4.part h2 F,_,h4.part h3 F,_,h4.eq 9998 F,?_⟩
  cases e f<;>rfl
 ·cases fs.toList.all e<;>rfl
theorem Jm (x y:Sy) (F:PH):rdo prog (Op.equal 69 (.agg x.arr) (.agg y.arr)) F (decide (x=y)):=by
 have h:=tP (t:=69) underlying69 (by kernel_rfl) (cs:=x.arr) (ds:=y.arr) (fun f=>if f.offset=0 then decide (x.t=y.t) else decide (x.i=y.i)) (fun f hf=>by
  simp only [List.mem_cons,List.not_mem_nil,or_false] at hf
  rcases hf with rfl|rfl
  ·exact ⟨by decide,_,_,rfl,rfl,.bool underlying4⟩
  ·exact ⟨by decide,_,_,rfl,rfl,.int underlying3⟩) F
 refine cast ?_ h
 congr 1
 cases x;cases y
 rw [Bool.eq_iff_iff]
 simp [Sy.mk.injEq]
abbrev Sco.arr (s:Sco):Array Value:= #[.bool s.o,vi s.d,vi s.k,vi s.u,vi s.a]
theorem EA (x y:Sco) (F:PH):rdo prog (Op.equal 65 (.agg x.arr) (.agg y.arr)) F (decide (x=y)):=by
 have h:=tP (t:=65) underlying65 (by kernel_rfl) (cs:=x.arr) (ds:=y.arr)
  (fun f=>if f.offset=0 then decide (x.o=y.o) else if f.offset=1 then decide (x.d=y.d) else if f.offset=2 then decide (x.k=y.k) else if f.offset=3 then decide (x.u=y.u) else decide (x.a=y.a)) (fun f hf=>by
  simp only [List.mem_cons,List.not_mem_nil,or_false] at hf
  rcases hf with rfl|rfl|rfl|rfl|rfl
  ·exact ⟨by decide,_,_,rfl,rfl,.bool underlying4⟩
  all_goals exact ⟨by decide,_,_,rfl,rfl,.int underlying3⟩) F
 refine cast ?_ h
 congr 1
 cases x;cases y
 rw [Bool.eq_iff_iff]
 simp [Sco.mk.injEq]
def jg (g:Gr) (s:Sy):Prop:=0≤s.i∧(s.t=false→s.i<g.nons.length)∧(s.t=true→∃t,g.toks[s.i.toNat]? =some t∧t.cls=0)
instance (g:Gr) (s:Sy):Decidable (jg g s):=by
 have:Decidable (∃t,g.toks[s.i.toNat]? =some t∧t.cls=0):=by
  cases h:g.toks[s.i.toNat]? with
  |none=>exact isFalse fun ⟨t,h1,_⟩=>by cases h1
  |some t=>exact decidable_of_iff (t.cls=0) ⟨fun e=>⟨t,rfl,e⟩,fun ⟨u,h1,h2⟩=>by cases h1;exact h2⟩
 unfold jg
 exact inferInstance
theorem tQ {F:PH} {v:Array Value} {g:Gr} (hg:GV F v g) (x:Sy):ae prog 153 #[.agg v,.agg x.arr] F fun r F'=>r=.bool (decide (jg g x))∧F.le F':=by
 obtain ⟨c,n,t,s,p,l,f,rfl,hs⟩:=hg
 refine My ?_
 unfold Gv
 refine fresh fun b2 F1 l1 q1 _=> ?_
 refine fresh fun b3 F2 l2 q2 _=> ?_
 replace q1:=l2 _ _ q1
 replace l1:=aa l1 l2
 have es:=hs.s.len (by decide)
 have et:=hs.t.len (by decide)
 obtain ⟨xt,xi⟩:=x
 have no:¬jg g ⟨xt,xi⟩→(Value.bool false=.bool (decide (jg g ⟨xt,xi⟩))∧F.le F2):=fun h=>⟨by rw [decide_eq_false h],l1⟩
 refine ⟨_,ld q2 rfl,fun h=>⟨_,ld q2 rfl,fun h0=>⟨_,ld q2 rfl,_,ld q1 rfl,?_,l1⟩,fun h0=>no fun hp=>h0 hp.1⟩,fun h=>⟨_,ld q2 rfl,fun h0=>⟨_,ld q2 rfl,_,ld q1 rfl,fun h1=>⟨_,ld q1 rfl,_,ld q2 rfl,?_⟩,fun h1=>no fun hp=> ?_⟩,fun h0=>no fun hp=>h0 hp.1⟩⟩
 ·have h:xt=false:=by simpa using h
  subst h
  congr 1
  rw [Bool.eq_iff_iff,decide_eq_true_eq,decide_eq_true_eq]
  exact ⟨fun h1=>⟨h0,fun _=>by dsimp only at h1 ⊢;omega,fun h=>(by cases h)⟩,fun hp=>by have:=hp.2.1 rfl;dsimp only at this ⊢;omega⟩
 ·have h:xt=true:=by simpa using h
  subst h
  refine ixc (hs.t.le l1) (by decide) h0 h1 fun a cc y hy hr hc=> ?_
  obtain ⟨pp,nn,rfl,_,_⟩:=hc
  refine ⟨_,aF hr rfl,?_,l1⟩
  congr 1
  rw [Bool.eq_iff_iff,decide_eq_true_eq,decide_eq_true_eq]
  exact ⟨fun h1=>⟨h0,fun h=>(by cases h),fun _=>⟨y,hy,h1⟩⟩,fun hp=>by
   obtain ⟨z,hz,h2⟩:=hp.2.2 rfl
   rw [hy] at hz
   cases hz
   exact h2⟩
 ·have h:xt=true:=by simpa using h
  subst h
  obtain ⟨z,hz,_⟩:=hp.2.2 rfl
  have:=(List.getElem?_eq_some_iff.1 hz).1
  dsimp only at this h1
  omega
def dD (r:List Sy) (k v lo hi:Int):Prop:=(k=0∧v=0)∨(0<k∧k≤r.length∧(∃s,r[(k - 1).toNat]? =some s∧s.t=true)∧lo≤v∧v≤hi)
def u0 (r:List Sy) (x:Cn):Prop:=1≤x.k∧x.k≤4∧0≤x.a∧x.a<r.length∧0≤x.b∧x.b<r.length∧(x.k=1→x.b=0)
def nP:Sco:=⟨false,0,0,0,0⟩
def u6 (p:Pr):Prop:=p.right.length=3∧p.rank=0∧p.lay=[]∧p.sco=nP∧(∃s,p.right[0]? =some s∧s.t=true)∧p.right[1]? =some ⟨false,p.left⟩∧(∃s,p.right[2]? =some s∧s.t=true)
def jH (p:Pr):Prop:=(∀x∈p.lay,u0 p.right x)∧dD p.right p.sco.d p.sco.k 1 7∧dD p.right p.sco.u p.sco.a 0 255∧(p.brk=true→u6 p)
open Classical in
theorem nQ {F:PH} {b:Nat} {x:Pr} {r n l:Sl} (hr:RL F r x.right) (q:F b=some (.cells (x.arr r n l) 67)) (k v lo hi:Int) (hk:x.right.length≤16):
  ae prog 208 #[vi k,vi v,vi lo,vi hi,.pointer (some ⟨b,0,none⟩)] F fun res F'=>res=.bool (decide (dD x.right k v lo hi))∧F.le F':=by
 refine MZ ?_
 unfold GL
 have er:=hr.len (by decide)
 have no:¬dD x.right k v lo hi→(Value.bool false=.bool (decide (dD x.right k v lo hi))∧F.le F):=fun h=>⟨by rw [decide_eq_false h],le_refl' F⟩
 have hcell:F.cell (Addr.add (Addr.mk b 0 none) 2)=some r.v:=by rw [aL];exact ld q rfl
 refine ⟨fun h0=>⟨?_,le_refl' F⟩,fun h0=>⟨fun h1=>⟨_,rfl,_,hcell,fun h2=>⟨_,hcell,?_⟩,fun h2=>no ?_⟩,fun h1=>no ?_⟩⟩
 ·congr 1
  rw [Bool.eq_iff_iff,decide_eq_true_eq,decide_eq_true_eq]
  exact ⟨fun h=> .inl ⟨h0,h⟩,fun h=>h.elim (fun h=>h.2) fun h=>by omega⟩
 ·have ew:IntKind.i64.wrap (k - 1)=k - 1:=aJ (by omega) (by omega)
  rw [ew]
  refine ixc hr (by decide) (by omega) (by omega) fun a c s hs hrow hc=> ?_
  rw [show c=s.arr from hc] at hrow
  refine ⟨_,aM hrow rfl,fun ht=>⟨fun h3=>⟨?_,le_refl' F⟩,fun h3=>no ?_⟩,fun ht=>no ?_⟩
  ·congr 1
   rw [Bool.eq_iff_iff,decide_eq_true_eq,decide_eq_true_eq]
   exact ⟨fun h=> .inr ⟨h1,by omega,⟨s,hs,ht⟩,h3,h⟩,fun h=>h.elim (fun h=>by omega) fun h=>h.2.2.2.2⟩
  ·rintro (h|h)
   ·omega
   ·exact h3 h.2.2.2.1
  ·rintro (h|h)
   ·omega
   ·obtain ⟨s',hs',ht'⟩:=h.2.2.1
    rw [hs] at hs'
    cases hs'
    rw [ht] at ht'
    cases ht'
 ·rintro (h|h)
  ·omega
  ·omega
 ·rintro (h|h)
  ·omega
  ·omega
theorem nR {F:PH} {b:Nat} {x:Pr} {r n l:Sl} (hr:RL F r x.right) (q:F b=some (.cells (x.arr r n l) 67)) (i:Int):
  ae prog 207 #[vi i,.pointer (some ⟨b,0,none⟩)] F fun res F'=>res=.bool (decide (0≤i∧i<x.right.length))∧F.le F':=by
 refine MY ?_
 unfold GK
 have er:=hr.len (by decide)
 have hcell:F.cell (Addr.add (Addr.mk b 0 none) 2)=some r.v:=by rw [aL];exact ld q rfl
 refine ⟨fun h=>⟨_,rfl,_,hcell,?_,le_refl' F⟩,fun h=>⟨?_,le_refl' F⟩⟩
 ·congr 1
  rw [Bool.eq_iff_iff,decide_eq_true_eq,decide_eq_true_eq]
  omega
 ·rw [decide_eq_false (fun hn=>h hn.1)]
open Classical in
theorem rE {F:PH} {v:Array Value} {x:Pr} (hp:Mem.rep F x v) (h1:x.right.length≤16) (h2:x.lay.length≤16):ae prog 155 #[.agg v] F fun r F'=>r=.bool (decide (jH x))∧F.le F':=by
 obtain ⟨r,n,l,rfl,hr,hn,hl⟩:=hp
 have er:=hr.len (by decide)
 have el:=hl.len (by decide)
 refine Mz ?_
 unfold Gw
 refine fresh fun b1 F1 l1 q1 _=>⟨_,ld q1 rfl,?_⟩
 replace hr:=hr.le l1
 replace hl:=hl.le l1
 have no:∀{F':PH},F1.le F'→¬jH x→(Value.bool false=.bool (decide (jH x))∧F.le F'):=fun {F'} l h=>⟨by rw [decide_eq_false h],aa l1 l⟩
 refine cZ (sF · b1 l _) x.lay.length (fun k F'=>F1.le F'∧∀y∈x.lay.take k,u0 x.right y) ⟨le_refl' _,by simp⟩ ?_
 rintro k F2 N hk ⟨l2,hi⟩ next
 unfold sF
 refine ⟨fun hlt=> ?_,fun hge=> ?_⟩
 ·have hlt:k<x.lay.length:=by omega
  refine ixc (hl.le l2) (by decide) (by omega) (by omega) fun a c y hy hrow hc=> ?_
  rw [show c=y.arr from hc] at hrow
  rw [Int.toNat_natCast] at hy hrow
  have hym:y∈x.lay:=List.mem_of_getElem? hy
  refine ⟨_,rfl,hrow,?_⟩
  refine (St.start F2).new fun b4 F3 h=> ?_
  refine h.put0 (w':=y.arr) rfl rfl (by simp [ak]) fun F4 h=> ?_
  obtain ⟨_,_,q4,h⟩:∃G',F2.le G'∧G' b4=some (.cells y.arr 101)∧G'.le F4:=h.pinb (K:=fun F4=>∃G',F2.le G'∧G' b4=some (.cells y.arr 101)∧G'.le F4) fun G' l q h=>⟨G',l,q,h.le⟩
  have l4:F2.le F4:=aa ‹F2.le _› h
  replace q4:=h _ _ q4
  replace l4:=aa l2 l4
  have good:u0 x.right y→∀F5,F1.le F5→mO N b1 l (k:Int) (fun r F'=>r=.bool (decide (jH x))∧F.le F') F5:=fun hg F5 l5=>by
   unfold mO
   rw [aV hlt (by omega)]
   refine next _ hlt ⟨l5,fun z hz=> ?_⟩
   rw [bh hy] at hz
   rcases List.mem_append.1 hz with hz|hz
   ·exact hi z hz
   ·rw [List.mem_singleton.1 hz];exact hg
  have bad:∀{F':PH},F1.le F'→¬u0 x.right y→(Value.bool false=.bool (decide (jH x))∧F.le F'):=fun {F'} l h=>no l fun hd=>h (hd.1 y hym)
  refine ⟨_,ld q4 rfl,fun h=>bad l4 fun hp=>by have:=hp.1;omega,fun k1=>⟨_,ld q4 rfl,fun h=>bad l4 fun hp=>by have:=hp.2.1;omega,fun k2=>⟨_,ld q4 rfl,?_⟩⟩⟩
  refine (nR (hr.le l4) (l4 _ _ q1) y.a).mono ?_
  rintro _ F5 ⟨rfl,l5⟩
  refine ⟨_,rfl,fun h=>bad (aa l4 l5) fun hp=> ?_,fun k3=>⟨_,ld (l5 _ _ q4) rfl,?_⟩⟩
  ·rw [decide_eq_true ⟨hp.2.2.1,hp.2.2.2.1⟩] at h;cases h
  refine (nR (hr.le (aa l4 l5)) (l5 _ _ (l4 _ _ q1)) y.b).mono ?_
  rintro _ F6 ⟨rfl,l6⟩
  have l46:=aa l4 (aa l5 l6)
  have q6:=l6 _ _ (l5 _ _ q4)
  refine ⟨_,rfl,fun h=>bad l46 fun hp=> ?_,fun k4=>⟨_,ld q6 rfl,fun k5=>⟨_,ld q6 rfl,fun k6=>bad l46 fun hp=>k6 (hp.2.2.2.2.2.2 k5),fun k6=>good ?_ _ l46⟩,fun k5=>good ?_ _ l46⟩⟩
  ·rw [decide_eq_true ⟨hp.2.2.2.2.1,hp.2.2.2.2.2.1⟩] at h;cases h
  ·simp at k3 k4
   exact ⟨by omega,by omega,k3.1,k3.2,k4.1,k4.2,fun _=>by omega⟩
  ·simp at k3 k4
   exact ⟨by omega,by omega,k3.1,k3.2,k4.1,k4.2,fun h=>absurd h k5⟩
 ·have e:k=x.lay.length:=by omega
  subst e
  rw [List.take_length] at hi
  unfold ye
  refine ⟨x.sco.arr,rfl,nX (l2 _ _ q1) rfl,?_⟩
  refine (St.start F2).new fun b7 F3 h=> ?_
  refine h.put0 (w':=x.sco.arr) rfl rfl (by simp [ak]) fun F4 h=> ?_
  obtain ⟨_,_,q4,h⟩:∃G',F2.le G'∧G' b7=some (.cells x.sco.arr 65)∧G'.le F4:=h.pinb (K:=fun F4=>∃G',F2.le G'∧G' b7=some (.cells x.sco.arr 65)∧G'.le F4) fun G' l q h=>⟨G',l,q,h.le⟩
  have l4:F2.le F4:=aa ‹F2.le _› h
  replace q4:=h _ _ q4
  replace l4:=aa l2 l4
  refine ⟨_,ld q4 rfl,_,ld q4 rfl,?_⟩
  refine (nQ (hr.le l4) (l4 _ _ q1) x.sco.d x.sco.k 1 7 h1).mono ?_
  rintro _ F5 ⟨rfl,l5⟩
  refine ⟨_,rfl,fun h=>no (aa l4 l5) fun hp=> ?_,fun k3=>⟨_,ld (l5 _ _ q4) rfl,_,ld (l5 _ _ q4) rfl,?_⟩⟩
  ·rw [decide_eq_true hp.2.1] at h;cases h
  refine (nQ (hr.le (aa l4 l5)) (l5 _ _ (l4 _ _ q1)) x.sco.u x.sco.a 0 255 h1).mono ?_
  rintro _ F6 ⟨rfl,l6⟩
  have l46:=aa l4 (aa l5 l6)
  have q6:=l6 _ _ (l5 _ _ q4)
  have p1:=l46 _ _ q1
  refine ⟨_,rfl,fun h=>no l46 fun hp=> ?_,fun k4=> ?_⟩
  ·rw [decide_eq_true hp.2.2.1] at h;cases h
  have k3:dD x.right x.sco.d x.sco.k 1 7:=by simpa using k3
  have k4:dD x.right x.sco.u x.sco.a 0 255:=by simpa using k4
  refine ⟨_,ld p1 rfl,fun hb=>⟨?_,aa l1 l46⟩,fun hb=> ?_⟩
  ·rw [decide_eq_true ⟨hi,k3,k4,fun h=>by rw [h] at hb;cases hb⟩]
  have hb:x.brk=true:=by simpa using hb
  have nob:¬u6 x→(Value.bool false=.bool (decide (jH x))∧F.le F6):=fun h=>no l46 fun hp=>h (hp.2.2.2 hb)
  refine ⟨_,ld p1 rfl,fun h=>nob fun hp=>h (by have:=hp.1;omega),fun k5=>⟨_,ld p1 rfl,fun h=>nob fun hp=>h hp.2.1,fun k6=>⟨_,ld p1 rfl,fun h=>nob fun hp=> ?_,fun k7=>⟨_,rfl,aj q6,_,fun F=>EA x.sco nP F,fun h=>nob fun hp=> ?_,fun k8=> ?_⟩⟩⟩⟩
  ·have:=hp.2.2.1
   rw [this] at el
   simp at el
   omega
  ·rw [decide_eq_true hp.2.2.2.1] at h;cases h
  have k8:x.sco=nP:=by simpa using k8
  have hr6:=hr.le l46
  refine ⟨_,ld p1 rfl,ixc hr6 (by decide) (by omega) (by omega) fun a c y hy hrow hc=> ?_⟩
  rw [show c=y.arr from hc] at hrow
  refine ⟨_,aM hrow rfl,fun k9=>⟨_,ld p1 rfl,ixc hr6 (by decide) (by omega) (by omega) fun a c z hz hrow hc=> ?_⟩,fun k9=>nob fun hp=> ?_⟩
  ·rw [show c=z.arr from hc] at hrow
   refine ⟨_,rfl,hrow,_,ld p1 rfl,_,fun F=>Jm z ⟨false,x.left⟩ F,fun k10=>⟨_,ld p1 rfl,ixc hr6 (by decide) (by omega) (by omega) fun a c w hw hrow hc=> ?_⟩,fun k10=>nob fun hp=> ?_⟩
   ·rw [show c=w.arr from hc] at hrow
    refine ⟨_,aM hrow rfl,?_,aa l1 l46⟩
    have k10:z=⟨false,x.left⟩:=by simpa using k10
    subst k10
    congr 1
    cases hwt:w.t with
    |true=>
     refine (decide_eq_true ⟨hi,k3,k4,fun _=>⟨by omega,Classical.not_not.1 k6,?_,k8,⟨y,hy,k9⟩,hz,⟨w,hw,hwt⟩⟩⟩).symm
     exact List.eq_nil_of_length_eq_zero (by omega)
    |false=>
     refine (decide_eq_false fun hp=> ?_).symm
     obtain ⟨s,hs,hst⟩:=(hp.2.2.2 hb).2.2.2.2.2.2
     rw [show x.right[2]? =some w from hw] at hs
     cases hs
     rw [hwt] at hst
     cases hst
   ·have e:some z=_:=hz.symm.trans hp.2.2.2.2.2.1
    cases e
    simp at k10
  ·obtain ⟨s,hs,hst⟩:=hp.2.2.2.2.1
   have e:some y=_:=hy.symm.trans hs
   cases e
   rw [k9] at hst
   cases hst
theorem St.var {G F:PH} {As:List (PH→Prop)} (h:St G F As) {n:Nat} {z w:Array Value} {e:TypeId} {K:Nat→PH→Prop} (hst:∀x∈w.toList,ak x)
  (k:∀b G' F',G.le G'→G' b=some (.cells w e)→St G' F' As→K b F') (hz:z.size=n:=by rfl) (hw:w.size=n:=by rfl):∀b,F b=none→atF (F.set b (.cells z e)) fun F=>aB F (Addr.mk b 0 none) n w (K b):=by
 refine h.new fun b F1 h=> ?_
 refine h.put0 hw hz hst fun F2 h=> ?_
 exact h.pinb fun G' l q h=>k b G' F2 l q h
theorem Jn {F:PH} {n:Nat} {z w:Array Value} {e:TypeId} {K:Nat→PH→Prop} (hst:∀x∈w.toList,ak x)
  (k:∀b F',F.le F'→F' b=some (.cells w e)→K b F') (hz:z.size=n:=by rfl) (hw:w.size=n:=by rfl):∀b,F b=none→atF (F.set b (.cells z e)) fun F=>aB F (Addr.mk b 0 none) n w (K b):=
 (St.start F).var hst (fun b _ F' l q h=>k b F' (aa l h.le) (h.le _ _ q)) hz hw
theorem St.ix {α:Type} [Mem α] {G F:PH} {As:List (PH→Prop)} (h:St G F As) {s:Sl} {l:List α} (hl:RL G s l) (hn:0<Mem.n α) {i:Int} (h0:0≤i) (h1:i<(s.len:Int)) {K:Addr→Prop}
  (k:∀a c x,l[i.toNat]? =some x→F.row (a.add (i.toNat*Mem.n α)) c→Mem.rep G x c→K a):∃a,s.base=some a∧0≤i∧i<(s.len:Int)∧K a:=
 ixc hl hn h0 h1 fun a c x hx hr hc=>k a c x hx (ig h.le hr) hc
section
variable {K:Type} [DecidableEq K] {enc:K→Value} {f:K→Option Value} {m:Nat} {G F:PH} {As:List (PH→Prop)} {t:TypeId} {z:Value}
def mpE (m:Nat) (enc:K→Value) (f:K→Option Value):PH→Prop:=fun H=>∃o,H m=some o∧fM enc f o
theorem St.newMap (h:St G F As) (enc:K→Value) {Q:Nat→PH→Prop} (k:∀b F',St G F' (mpE b enc (fun _=>none)::As)→Q b F'):∀b,F b=none→atF (F.set b (.map #[] 0)) (Q b):=fun b hb=>by
 refine atI (k b _ (h.push (H:=PH.set (fun _=>none) b (.map #[] 0)) ⟨_,an _ _ _,fM.empty enc⟩ (fun x hx=> ?_) (fun x p hx=> ?_) (ac _ hb)))
 ·by_cases e:x=b
  ·rw [e];exact hb
  ·rw [aw _ _ e] at hx;exact absurd rfl hx
 ·by_cases e:x=b
  ·rw [e,an] at hx ⊢;exact hx
  ·rw [aw _ _ e] at hx;cases hx
theorem St.lookAt (h:St G F As) {i:Nat} (hi:As[i]? =some (mpE m enc f)) (mt:jL prog t enc z) (k:K) (ok:Bool):rdo prog (Instr.lookup t (.map (some m)) (enc k) ok) F (if ok then .tuple #[(f k).getD z,.bool (f k).isSome] else (f k).getD z):=by
 obtain ⟨H,⟨o,h1,h2⟩,_,h3⟩:=h.get hi
 exact dr mt (h3 _ _ h1) h2 k ok
theorem St.updAt (h:St G F As) (i:Nat) (hi:As[i]? =some (mpE m enc f)) (mt:jL prog t enc z) (k:K) (v:Value) {Q:Unit→PH→Prop} (kk:∀F',St G F' (As.set i (mpE m enc fun k'=>if k'=k then some v else f k'))→Q () F'):
  aD prog (Instr.mapUpdate t (.map (some m)) (enc k) v) F Q:=by
 obtain ⟨H,⟨o,a1,a0⟩,a2,a3,a4⟩:=h.set (A':=mpE m enc fun k'=>if k'=k then some v else f k') hi
 refine bD mt (a3 _ _ a1) a0 k v fun o' ho'=>kk _ ?_
 refine a4 (H.set m o') _ ⟨o',an _ _ _,ho'⟩ (fun x hx=> ?_) (fun x p hx=> ?_) (fun x p hx hn=> ?_)
 ·by_cases e:x=m
  ·rw [e,a1];exact .inl (by simp)
  ·rw [aw _ _ e] at hx;exact .inl hx
 ·by_cases e:x=m
  ·rw [e,an] at hx ⊢;exact hx
  ·rw [aw _ _ e] at hx ⊢;exact a3 _ _ hx
 ·have e:x≠m:=fun e=>by rw [e,a1] at hn;cases hn
  rw [aw _ _ e];exact hx
end
def AH (g:Gr) (done:List ByteArray) (p:Pr):Prop:=p.name≠emp∧p.name ∉ done∧gD p.cond g.conds.length∧-1≤p.rank∧p.rank≤1∧jH p
def d8 (g:Gr) (p:Pr):Prop:=jg g ⟨false,p.left⟩∧∀s∈p.right,jg g s
open Classical in
noncomputable def cy (g:Gr) (done:List ByteArray):List Pr→Int
 |[]=>0
 |p::l=>if ¬d8 g p then 50 else if ¬AH g done p then 52 else cy g (done++[p.name]) l
theorem kO {α:Type} {l:List α} {k:Nat} {x:α} (h:l[k]? =some x):l.drop k=x::l.drop (k+1):=by
 obtain ⟨hk,rfl⟩:=List.getElem?_eq_some_iff.1 h
 exact List.drop_eq_getElem_cons hk
theorem Do:aC prog 152=true:=by kernel_rfl
theorem nS {F:PH} {b:Nat} {v:Array Value} {g:Gr} (hg:GV F v g) (q:F b=some (.cells v 39)) (x:Sy):ae prog 152 #[.agg x.arr,.pointer (some ⟨b,0,none⟩)] F fun r F'=>r=.bool (!decide (jg g x))∧F.le F':=by
 refine Mx ?_
 unfold Gu
 refine fresh fun b2 F1 l1 q1 _=>⟨_,rfl,v,hg.size,aj (l1 _ _ q),_,rfl,aj q1,?_⟩
 refine (tQ (hg.le l1) x).mono ?_
 rintro _ F2 ⟨rfl,l2⟩
 exact ⟨_,rfl,rfl,aa l1 l2⟩
theorem fJ {g:Gr} (h:co g=false):g.conds.length≤64∧g.toks.length≤256∧g.fils.length≤4096∧g.nons.length≤2000∧g.prods.length≤2000∧g.lvs.length≤2000∧∀p∈g.prods,p.right.length≤16∧p.lay.length≤16:=by
 unfold co at h
 rw [Bool.or_eq_false_iff,decide_eq_false_iff_not,List.any_eq_false] at h
 obtain ⟨h1,h2⟩:=h
 refine ⟨by omega,by omega,by omega,by omega,by omega,by omega,fun p hp=> ?_⟩
 have:=h2 p hp
 simp only [decide_eq_true_eq] at this
 omega
open Classical in
theorem lR {F:PH} {v:Array Value} {g:Gr} (hg:GV F v g) (hl:co g=false):ae prog 78 #[.agg v] F fun r F'=>r=vi (cy g [] g.prods)∧F.le F':=by
 obtain ⟨_,_,_,_,hlp,_,hlr⟩:=fJ hl
 have hg0:=hg
 obtain ⟨c,n,t,s,p,l,f,rfl,hs⟩:=hg
 have ec:=hs.c.len (by decide)
 have ep:=hs.p.len (by decide)
 refine OI ?_
 unfold L7
 refine fresh fun b1 F1 l1 q1 _=> ?_
 replace hs:=hs.le l1
 replace hg0:=hg0.le l1
 refine (gb F1).mono ?_
 rintro _ F2 ⟨G2,bn,m,rfl,l2,hcn,h⟩
 refine ⟨_,rfl,_,ld (h.le _ _ (l2 _ _ q1)) rfl,?_⟩
 refine cZ (wg · b1 (tS bn) p _) g.prods.length (fun k F'=>∃G,G2.le G∧St G F' [cg m ((g.prods.take k).map Pr.name).reverse]∧cy g [] g.prods=cy g ((g.prods.take k).map Pr.name) (g.prods.drop k))
  ⟨G2,le_refl' _,h,by simp⟩ ?_
 rintro k F3 N hk ⟨G3,l3,h,hE⟩ next
 have l13:=aa l2 l3
 unfold wg
 refine ⟨fun hlt=> ?_,fun hge=> ?_⟩
 ·have hlt:k<g.prods.length:=by omega
  refine h.ix (hs.p.le l13) (by decide) (by omega) (by omega) fun a cc x hx hr hc=> ?_
  rw [Int.toNat_natCast] at hx
  have hxm:x∈g.prods:=List.mem_of_getElem? hx
  obtain ⟨hxr,hxl⟩:=hlr x hxm
  have hE':=hE
  rw [kO hx,cy] at hE'
  have hst:=Mem.st hc
  have hc0:=hc
  obtain ⟨rr,nn,ll,rfl,h1,h2,h3⟩:=hc
  refine ⟨x.arr rr nn ll,rfl,hr,?_⟩
  refine h.var hst fun b5 G4 F4 l4 q5 h=> ?_
  have bad50:∀{F'},G3.le F'→¬d8 g x→(vi 50=vi (cy g [] g.prods)∧F.le F'):=fun {F'} l hn=>⟨by rw [hE',if_pos hn],aa l1 (aa l13 l)⟩
  have bad52:∀{F'},G3.le F'→d8 g x→¬AH g ((g.prods.take k).map Pr.name) x→(vi 52=vi (cy g [] g.prods)∧F.le F'):=fun {F'} l h1 hn=>⟨by rw [hE',if_neg (fun h=>h h1),if_pos hn],aa l1 (aa l13 l)⟩
  refine ⟨_,ld (h.le _ _ q5) rfl,?_⟩
  refine h.runv (nS (x:=⟨false,x.left⟩) (hg0.le (aa l13 l4)) (l4 _ _ (l13 _ _ q1))) fun G5 F5 l5 h=>⟨_,rfl,fun hb=>bad50 (aa l4 (aa l5 h.le)) fun hn=> ?_,fun hb=>⟨_,ld (h.le _ _ (l5 _ _ q5)) rfl,?_⟩⟩
  ·rw [decide_eq_true hn.1] at hb;cases hb
  have hs1:jg g ⟨false,x.left⟩:=by simpa using hb
  have l35:=aa l4 l5
  have sp:ae prog 154 #[rr.v,.func (.func 152) #[] #[.pointer (some ⟨b1,0,none⟩)]] G5 fun r F'=>r=.bool (x.right.any fun s=> !decide (jg g s))∧G5.le F':=by
   refine J8 ?_
   unfold E6
   refine (show ae prog 206 #[rr.v,.func (.func 152) #[] #[.pointer (some ⟨b1,0,none⟩)]] G5 (fun r F'=>∃i,r=vi i∧(0≤i↔(x.right.any fun s=> !decide (jg g s))=true)∧G5.le F')
    from Ke (vb (h1.le l35) (by decide) (by omega) Do (fun s=> !decide (jg g s)) fun y hy c F6 l6 hc=> ?_)).mono ?_
   ·rw [show c=y.arr from hc]
    exact nS (hg0.le (aa l13 (aa l35 l6))) (l6 _ _ (l35 _ _ (l13 _ _ q1))) y
   ·rintro _ F6 ⟨i,rfl,hi,l6⟩
    refine ⟨_,rfl,?_,l6⟩
    congr 1
    rw [Bool.eq_iff_iff,decide_eq_true_eq]
    exact hi
  refine h.runv sp fun G6 F6 l6 h=>⟨_,rfl,fun hb=>bad50 (aa l35 (aa l6 h.le)) fun hn=> ?_,fun hb=> ?_⟩
  ·obtain ⟨y,hy,hy2⟩:=List.any_eq_true.1 hb
   rw [decide_eq_true (hn.2 y hy)] at hy2
   cases hy2
  have hsy:d8 g x:=⟨hs1,fun y hy=>by
   have:=List.any_eq_false.1 hb y hy
   simpa using this⟩
  replace l35:=aa l35 l6
  have q6:=l6 _ _ (l5 _ _ q5)
  refine ⟨_,ld (h.le _ _ q6) rfl,?_⟩
  refine me h (aq (aa l3 l35) hcn) x.name fun G7 F7 l7 h=>⟨_,rfl,fun hb=>bad52 (aa l35 (aa l7 h.le)) hsy fun hn=> ?_,fun hb=> ?_⟩
  ·rw [decide_eq_true ⟨hn.1,hn.2.1⟩] at hb;cases hb
  have hnm:x.name≠emp∧x.name ∉ (g.prods.take k).map Pr.name:=by simpa using hb
  replace l35:=aa l35 l7
  have q7:=l7 _ _ q6
  refine ⟨#[nn.v,vi x.cond.2],rfl,nX (h.le _ _ q7) rfl,_,ld (h.le _ _ (l35 _ _ (l13 _ _ q1))) rfl,?_⟩
  dsimp only
  rw [ec]
  refine h.runv (fL (d:=x.cond) (DV.mk (h2.le l35))) fun G8 F8 l8 h=>⟨_,rfl,fun hb=>bad52 (aa l35 (aa l8 h.le)) hsy fun hn=> ?_,fun hb=> ?_⟩
  ·rw [cd.2 hn.2.2.1] at hb;cases hb
  have hfit:gD x.cond g.conds.length:=cd.1 (by simpa using hb)
  replace l35:=aa l35 l8
  have q8:=l8 _ _ q7
  refine ⟨_,ld (h.le _ _ q8) rfl,fun hb=>bad52 (aa l35 h.le) hsy fun hn=>by have:=hn.2.2.2.1;omega,fun hr1=>⟨_,ld (h.le _ _ q8) rfl,fun hb=>bad52 (aa l35 h.le) hsy fun hn=>by have:=hn.2.2.2.2.1;omega,fun hr2=>⟨_,rfl,aj (h.le _ _ q8),?_⟩⟩⟩
  refine h.runv (rE (Mem.le l35 hc0) hxr hxl) fun G9 F9 l9 h=>⟨_,rfl,fun hb=>bad52 (aa l35 (aa l9 h.le)) hsy fun hn=> ?_,fun hb=> ?_⟩
  ·rw [decide_eq_true hn.2.2.2.2.2] at hb;cases hb
  have hdet:jH x:=by simpa using hb
  rw [aV hlt (by omega)]
  have e:(g.prods.take k).map Pr.name++[x.name]=(g.prods.take (k+1)).map Pr.name:=by rw [bh hx,List.map_append];rfl
  refine next _ hlt ⟨G9,aa l3 (aa l35 l9),by rw [← e];exact h,?_⟩
  rw [hE',if_neg (fun h=>h hsy),if_neg (fun h=>h ⟨hnm.1,hnm.2,hfit,by omega,by omega,hdet⟩),e]
 ·have e:k=g.prods.length:=by omega
  subst e
  rw [List.drop_length,cy] at hE
  unfold CL
  exact ⟨by rw [hE],aa l1 (aa l13 h.le)⟩
def HD (g:Gr) (done:List Int) (l:Lv):Prop:=0≤l.assoc∧l.assoc≤3∧gD l.cond g.conds.length∧(∀p∈l.ps,0≤p∧p<g.prods.length)∧l.ps.Nodup∧∀p∈l.ps,p ∉ done
def dE (g:Gr) (done:List Int):List Lv→Prop
 |[]=>True
 |l::r=>HD g done l∧dE g (done++l.ps) r
def jI (l:List Int) (i:Int):Option Value:=if i∈l then some (.bool true) else none
theorem u7 (l:List Int) (x:Int):jI (l++[x])=fun k=>if k=x then some (.bool true) else jI l k:=by
 funext k
 unfold jI
 by_cases e:k=x<;>simp [e]
theorem Jo:jL prog 213 um (.bool false):=⟨_,_,underlying213,Jp,KT⟩
open Classical in
theorem kP {F:PH} {v:Array Value} {g:Gr} (hg:GV F v g) (hl:co g=false) (hz:Sz g):ae prog 79 #[.agg v] F fun r F'=>r=vi (if dE g [] g.lvs then 0 else 53)∧F.le F':=by
 obtain ⟨_,_,_,_,hlp,hll,_⟩:=fJ hl
 obtain ⟨c,n,t,s,p,l,f,rfl,hs⟩:=hg
 have ec:=hs.c.len (by decide)
 have ep:=hs.p.len (by decide)
 have el:=hs.l.len (by decide)
 refine OJ ?_
 unfold L8
 refine fresh fun b1 F1 l1 q1 _=> ?_
 replace hs:=hs.le l1
 refine (St.start F1).newMap um fun b8 F2 h=> ?_
 refine ⟨_,ld (h.le _ _ q1) rfl,?_⟩
 refine cZ (wi · b1 b8 l _) g.lvs.length (fun k F'=>∃G,F1.le G∧St G F' [mpE b8 um (jI ((g.lvs.take k).flatMap Lv.ps))]∧(dE g [] g.lvs↔dE g ((g.lvs.take k).flatMap Lv.ps) (g.lvs.drop k)))
  ⟨F1,le_refl' _,by rw [show jI ((g.lvs.take 0).flatMap Lv.ps)=fun _=>none from funext fun i=>by simp [jI]];exact h,by simp⟩ ?_
 rintro k F3 N hk ⟨G3,l3,h,hE⟩ next
 unfold wi
 refine ⟨fun hlt=> ?_,fun hge=> ?_⟩
 ·have hlt:k<g.lvs.length:=by omega
  refine h.ix (hs.l.le l3) (by decide) (by omega) (by omega) fun a cc x hx hr hc=> ?_
  rw [Int.toNat_natCast] at hx
  have hxm:x∈g.lvs:=List.mem_of_getElem? hx
  have hpl:=hz.l x hxm
  rw [kO hx,dE] at hE
  have hst:=Mem.st hc
  obtain ⟨pp,nn,rfl,h1,h2⟩:=hc
  have epp:=h1.len (by decide)
  refine ⟨x.arr pp nn,rfl,hr,?_⟩
  refine h.var hst fun b5 G4 F4 l4 q5 h=> ?_
  have bad:∀{F'},G3.le F'→¬HD g ((g.lvs.take k).flatMap Lv.ps) x→(vi 53=vi (if dE g [] g.lvs then 0 else 53)∧F.le F'):=fun {F'} l hn=>⟨by rw [if_neg (fun h=>hn (hE.1 h).1)],aa l1 (aa l3 l)⟩
  refine ⟨_,ld (h.le _ _ q5) rfl,fun hb=>bad (aa l4 h.le) fun hn=>by have:=hn.1;omega,fun k1=>⟨_,ld (h.le _ _ q5) rfl,fun hb=>bad (aa l4 h.le) fun hn=>by have:=hn.2.1;omega,fun k2=>⟨#[nn.v,vi x.cond.2],rfl,nX (h.le _ _ q5) rfl,_,ld (h.le _ _ (l4 _ _ (l3 _ _ q1))) rfl,?_⟩⟩⟩
  dsimp only
  rw [ec]
  refine h.runv (fL (d:=x.cond) (DV.mk (h2.le l4))) fun G5 F5 l5 h=>⟨_,rfl,fun hb=>bad (aa l4 (aa l5 h.le)) fun hn=> ?_,fun hb=> ?_⟩
  ·rw [cd.2 hn.2.2.1] at hb;cases hb
  have hfit:gD x.cond g.conds.length:=cd.1 (by simpa using hb)
  have l35:=aa l4 l5
  refine ⟨_,ld (h.le _ _ (l5 _ _ q5)) rfl,?_⟩
  refine cZ (wh N · b1 b8 l (k:Int) pp _) x.ps.length (fun j F'=>∃G,G5.le G∧St G F' [mpE b8 um (jI ((g.lvs.take k).flatMap Lv.ps++x.ps.take j))]∧(∀p∈x.ps.take j,0≤p∧p<g.prods.length)∧(x.ps.take j).Nodup∧∀p∈x.ps.take j,p ∉ (g.lvs.take k).flatMap Lv.ps)
   ⟨G5,le_refl' _,by simpa using h,by simp,by simp,by simp⟩ ?_
  rintro j F6 N2 hj ⟨G6,l6,h,i1,i2,i3⟩ next2
  have l36:=aa l35 l6
  unfold wh
  refine ⟨fun hlt2=> ?_,fun hge2=> ?_⟩
  ·have hlt2:j<x.ps.length:=by omega
   refine h.ix (h1.le l36) (by decide) (by omega) (by omega) fun a cc y hy hr hc=> ?_
   rw [Int.toNat_natCast] at hy hr
   rw [show cc= #[vi y] from hc] at hr
   have hym:y∈x.ps:=List.mem_of_getElem? hy
   have hlk:=h.lookAt (i:=0) rfl Jo y false
   refine ⟨_,aM hr rfl,fun hb=>bad (aa l36 h.le) fun hn=>by have:=(hn.2.2.2.1 y hym).1;omega,fun y0=>⟨_,ld (h.le _ _ (l36 _ _ (l3 _ _ q1))) rfl,fun hb=>bad (aa l36 h.le) fun hn=>by have:=(hn.2.2.2.1 y hym).2;omega,fun y1=> ?_⟩⟩
   by_cases hu:y∈(g.lvs.take k).flatMap Lv.ps++x.ps.take j
   ·rw [show jI _ y=some (.bool true) from if_pos hu] at hlk
    refine ⟨true,hlk,fun _=>bad (aa l36 h.le) fun hn=> ?_,fun h=>(by cases h)⟩
    rcases List.mem_append.1 hu with hu|hu
    ·exact hn.2.2.2.2.2 y hym hu
    ·have hnd:=hn.2.2.2.2.1.sublist (List.take_sublist (j+1) x.ps)
     rw [bh hy,List.nodup_append] at hnd
     exact hnd.2.2 y hu y (by simp) rfl
   ·rw [show jI _ y=none from if_neg hu] at hlk
    refine ⟨false,hlk,fun h=>(by cases h),fun _=> ?_⟩
    refine h.updAt 0 rfl Jo y (.bool true) fun F7 h=> ?_
    rw [aV hlt2 (by omega)]
    rw [List.mem_append,not_or] at hu
    refine next2 _ hlt2 ⟨G6,l6,?_,fun p hp=> ?_,?_,fun p hp=> ?_⟩
    ·rw [bh hy,← List.append_assoc,u7]
     exact h
    ·rw [bh hy] at hp
     rcases List.mem_append.1 hp with hp|hp
     ·exact i1 p hp
     ·rw [List.mem_singleton.1 hp];omega
    ·rw [bh hy,List.nodup_append]
     exact ⟨i2,by simp,fun a ha b hb e=>hu.2 (by rw [← List.mem_singleton.1 hb,← e];exact ha)⟩
    ·rw [bh hy] at hp
     rcases List.mem_append.1 hp with hp|hp
     ·exact i3 p hp
     ·rw [List.mem_singleton.1 hp];exact hu.1
  ·have e:j=x.ps.length:=by omega
   subst e
   rw [List.take_length] at i1 i2 i3 h
   unfold CN
   rw [aV hlt (by omega)]
   have e:(g.lvs.take k).flatMap Lv.ps++x.ps=(g.lvs.take (k+1)).flatMap Lv.ps:=by rw [bh hx,List.flatMap_append];simp
   rw [e] at h hE
   refine next _ hlt ⟨G6,aa l3 l36,h,hE.trans ⟨fun h=>h.2,fun h=>⟨⟨by omega,by omega,hfit,i1,i2,i3⟩,h⟩⟩⟩
 ·have e:k=g.lvs.length:=by omega
  subst e
  rw [List.drop_length,dE] at hE
  unfold CM
  exact ⟨by rw [if_pos (hE.2 trivial)],aa l1 (aa l3 h.le)⟩
end Go.Proofs.YtenpmjhnhepfdaaGreatDoor

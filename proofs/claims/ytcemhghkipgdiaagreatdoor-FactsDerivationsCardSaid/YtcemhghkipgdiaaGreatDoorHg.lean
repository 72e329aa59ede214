/-
  Check of grammars: productions, levels.
-/
import Derived.Test.YtcemhghkipgdiaaGreatDoorHd
import Derived.Test.YtcemhghkipgdiaaGreatDoorGbits
namespace Go.Proofs.YtcemhghkipgdiaaGreatDoor
open Go Go.Proofs.Tryz
set_option maxRecDepth 10000
theorem ixc {α:Type} [Mem α] {F:PH} {s:Sl} {l:List α} (h:RL F s l) (hn:0<Mem.n α) {i:Int} (h0:0<=i) (h1:i<(s.len:Int)) {K:Addr->Prop}
  (k:∀a c x,l[i.toNat]? =some x->F.row (a.add (i.toNat*Mem.n α)) c->Mem.rep F x c->K a):∃a,s.base=some a/\0<=i/\i<(s.len:Int)/\K a:=by
 have hlen:=h.len hn;have hlt:i.toNat<l.length:=by omega
 obtain ⟨a,c,ha,hr,hc⟩:=h.get hn (N4 hlt);exact ⟨a,ha,h0,h1,k a c _ (N4 hlt) hr hc⟩
def iK (d:Dia) (n:Nat):Prop:=chk d=0/\∀b∈d.1,b.v<n
open Classical in
noncomputable def pS (d:Dia) (n:Nat):Bool:=decide (iK d n)
theorem cH {d:Dia} {n:Nat}:pS d n=true↔iK d n:=by unfold pS;simp
theorem uo {d:Dia} {n:Nat}:pS d n=false↔¬iK d n:=by unfold pS;simp
theorem M3:aB prog 181=true:=by kernel_rfl
theorem gE {F:PH} {v:Γ} {d:Dia} {n:Nat} (hd:DV F v d):aj prog 143 #[.agg v,vi n] F λr F'=>r=.bool (pS d n)/\F.le F':=by
 obtain ⟨s,rfl,hr⟩:=hd;refine Nn ?_;unfold IY;refine fresh λb2 F1 l1 q1 _=> ?_;refine fresh λb3 F2 l2 q2 _=> ?_;replace q1:=l2 _ _ q1;replace hr:=hr.le (aa l1 l2);replace l1:=aa l1 l2;refine ⟨_,rfl,ac q1,?_⟩;refine (ik (d:=d) ⟨s,rfl,hr⟩).mono ?_;rintro _ F3 ⟨rfl,l3⟩;refine ⟨_,rfl,λh=>⟨?_,aa l1 l3⟩,λh=> ?_⟩
 ·have:pS d n=false:=uo.2 λhg=>h hg.1;rw [this]
 ·have h:chk d=0:=Classical.not_not.1 h;have hle:d.1.length<=4096:=by apply Classical.byContradiction;intro hb;unfold chk at h;rw [if_pos (by omega)] at h;omega
  refine ⟨_,ld (l3 _ _ q1) rfl,?_⟩;refine O5 ?_;unfold J6;have hs:RL F3 s d.1:=(RL.brs.2 hr).le l3
  refine (show aj prog 201 #[s.v,.func (.func 181) #[] #[.pointer (some ⟨b3,0,none⟩)]] F3 (λr F'=>∃i,r=vi i/\(0<=i↔d.1.any (λb=>decide ((n:Int)<=b.v))=true)/\F3.le F')
   from O9 (yp hs (by decide) (by omega) M3 (λb=>decide ((n:Int)<=b.v)) λx hx c F4 l4 hc=> ?_)).mono ?_
  ·rw [show c=aR x from hc];refine Ny ?_;unfold Jg;refine fresh λb F5 l5 q5 _=> ?_;exact ⟨_,ld q5 rfl,_,rfl,_,ld (l5 _ _ (l4 _ _ (l3 _ _ q2))) rfl,rfl,l5⟩
  ·rintro _ F4 ⟨i,rfl,hi,l4⟩;refine ⟨_,rfl,_,rfl,?_,aa l1 (aa l3 l4)⟩;congr 1;rw [TW,cH];simp only [Bool.not_eq_true',decide_eq_false_iff_not];rw [hi,UP];constructor
   ·intro hn;refine ⟨h,λb hb=>Int.not_le.1 λhb'=>hn ⟨b,hb,by simpa using hb'⟩⟩
   ·rintro ⟨_,hb⟩ ⟨b,hb1,hb2⟩;have:=hb b hb1;simp at hb2;omega
def dQ (g:Gr):Bool:=decide (64<g.conds.length\/256<g.toks.length\/4096<g.fils.length\/2000<g.nons.length\/2000<g.prods.length\/2000<g.lvs.length) || g.prods.any λp=>decide (16<p.right.length\/16<p.lay.length)
theorem Hb:aB prog 140=true:=by kernel_rfl
theorem yb {F:PH} {v:Γ} {g:Gr} (hg:GV F v g):aj prog 88 #[.agg v] F λr F'=>r=.bool (dQ g)/\F.le F':=by
 obtain ⟨c,n,t,s,p,l,f,rfl,hs⟩:=hg;refine Rz ?_;unfold M9;refine fresh λb1 F1 l1 q1 _=> ?_;have e1:=hs.c.len (by decide);have e2:=hs.t.len (by decide);have e3:=hs.s.len (by decide);have e4:=hs.p.len (by decide);have e5:=hs.l.len (by decide);have e6:=hs.f.len (by decide);have bad:(64<g.conds.length\/256<g.toks.length\/4096<g.fils.length\/2000<g.nons.length\/2000<g.prods.length\/2000<g.lvs.length)->(Value.bool true=.bool (dQ g)/\F.le F1):=λh=>by refine ⟨?_,l1⟩;unfold dQ;rw [decide_eq_true h,Bool.true_or]
 refine ⟨_,ld q1 rfl,λh=>bad (by omega),λh1=>⟨_,ld q1 rfl,λh=>bad (by omega),λh2=>⟨_,ld q1 rfl,λh=>bad (by omega),λh3=>⟨_,ld q1 rfl,_,ld q1 rfl,_,ld q1 rfl,λh=>bad (by omega),λh4=>⟨_,ld q1 rfl,?_⟩⟩⟩⟩⟩;refine O1 ?_;unfold J4
 refine (show aj prog 178 #[p.v,.func (.func 140) #[] #[]] F1 (λr F'=>∃i,r=vi i/\(0<=i↔g.prods.any (λp=>decide (16<p.right.length\/16<p.lay.length))=true)/\F1.le F')
  from O4 (yp (hs.p.le l1) (by decide) (by omega) Hb (λp=>decide (16<p.right.length\/16<p.lay.length)) λx hx c F4 l4 hc=> ?_)).mono ?_
 ·obtain ⟨r,n',l',rfl,h1,h2,h3⟩:=hc;refine Nk ?_;unfold IV;refine fresh λb F5 l5 q5 _=> ?_;have e1:=h1.len (by decide);have e2:=h3.len (by decide);refine ⟨_,ld q5 rfl,_,ld q5 rfl,?_,l5⟩;congr 1;rw [TW];simp only [decide_eq_true_eq];omega
 ·rintro _ F4 ⟨i,rfl,hi,l4⟩;refine ⟨_,rfl,_,rfl,?_,aa l1 l4⟩;congr 1;unfold dQ;have hno:¬(64<g.conds.length\/256<g.toks.length\/4096<g.fils.length\/2000<g.nons.length\/2000<g.prods.length\/2000<g.lvs.length):=by omega
  rw [decide_eq_false hno,Vx,TW,decide_eq_true_eq];exact hi
structure Sz (g:Gr):Prop where
 c:∀s∈g.conds,s.size<=1000000000
 t:∀t∈g.toks,t.smp.size<=100000
 l:∀l∈g.lvs,l.ps.length<=1000000000
 f:∀f∈g.fils,f.toks.length<=1000000000
def bA (l:List ByteArray):Prop:=l.Nodup/\emp ∉ l
theorem fz {l:List ByteArray} {s:ByteArray}:bA (l++[s])↔bA l/\s≠emp/\s ∉ l:=by
 unfold bA;rw [Uj];simp only [TR,TO,not_or];constructor
 ·rintro ⟨⟨h1,_,h2⟩,h3,h4⟩;exact ⟨⟨h1,h3⟩,λe=>h4 e.symm,λhm=>h2 s hm s rfl rfl⟩
 ·rintro ⟨⟨h1,h2⟩,h3,h4⟩;exact ⟨⟨h1,by simp,λa ha b hb e=>h4 (by rw [<- hb,<- e];exact ha)⟩,h2,λe=>h3 e.symm⟩
theorem kQ {l:List ByteArray} (h:bA l) (k:Nat):bA (l.take k):=⟨h.1.sublist (List.take_sublist k l),λhm=>h.2 (Vv hm)⟩
theorem bE {α:Type} {l:List α} {k:Nat} {x:α} (h:l[k]? =some x):l.take (k+1)=l.take k++[x]:=by obtain ⟨hk,rfl⟩:=N6.1 h;exact T9 hk
theorem oJ {G F:PH} {As:List (Ψ)} {b m:Nat} {l:List ByteArray} (h:St G F (bF m l.reverse::As)) (hc:G.cell ⟨b,0,none⟩=some (.map (some m))) (s:ByteArray) {R:VR}
  (k:∀G' F',G.le G'->St G' F' (bF m (l++[s]).reverse::As)->R (.bool (decide (s≠emp/\s ∉ l))) F'):
  ∃(k28:Nat) (fst28 cap28:Γ),wB b=.func (.func k28) fst28 cap28/\aB prog k28=true/\aj prog k28 (fst28++([(.string s)]).toArray++cap28) F R:=by
 refine ⟨_,_,_,rfl,NC,?_⟩;have sp:=St.callL (Bs:=[bF m l.reverse]) (Cs:=As) (Bs':=λ_ _=>[bF m (s::l.reverse)]) (P:=λr _=>r=.bool (decide (s≠emp/\s ∉ l.reverse))) h λF1 h1=>(yn h1 hc s).mono λr F' ⟨G',hr,hl,hst⟩=>⟨G',hr,hl,hst⟩;refine sp.mono ?_;rintro r F' ⟨G',rfl,hl,hst⟩;have:=k G' F' hl (by rw [List.reverse_append];exact hst);rw [show decide (s≠emp/\s ∉ l.reverse)=decide (s≠emp/\s ∉ l) by simp];exact this
def M4:ByteArray:=ByteArray.mk #[116,114,117,101]
def KX:ByteArray:=ByteArray.mk #[102,97,108,115,101]
def pT (s:ByteArray):Prop:=nK s=true/\s≠M4/\s≠KX
def nJ (g:Gr):Prop:=(∀s∈g.conds,pT s)/\bA g.conds/\iK g.fam g.conds.length/\g.fam.2≠0
open Classical in
theorem mF {F:PH} {v:Γ} {g:Gr} (hg:GV F v g) (hz:Sz g) (hl:g.conds.length<=64):aj prog 89 #[.agg v] F λr F'=>r=vi (if nJ g then 0 else 54)/\F.le F':=by
 obtain ⟨c,n,t,s,p,l,f,rfl,hs⟩:=hg;have ec:=hs.c.len (by decide);refine RA ?_;unfold Na;refine fresh λb1 F1 l1 q1 _=> ?_;replace hs:=hs.le l1;refine (gV F1).mono ?_;rintro _ F2 ⟨G2,bn,m,rfl,l2,hcn,h⟩;refine ⟨_,rfl,_,ld (h.le _ _ (l2 _ _ q1)) rfl,?_⟩;have bad:∀{F'},F1.le F'->¬nJ g->(vi 54=vi (if nJ g then 0 else 54)/\F.le F'):=λ{F'} l hn=>⟨by rw [if_neg hn],aa l1 l⟩;refine bD (yg · b1 (wB bn) c _) g.conds.length (λk F'=>∃G,G2.le G/\St G F' [bF m (g.conds.take k).reverse]/\(∀s∈g.conds.take k,pT s)/\bA (g.conds.take k))
  ⟨G2,aq _,h,by simp,by simp [bA]⟩ ?_
 rintro k F3 N hk ⟨G3,l3,h,hi,hi2⟩ next;have l13:=aa l2 l3;unfold yg;refine ⟨λhlt=> ?_,λhge=> ?_⟩
 ·have hlt:k<g.conds.length:=by omega
  refine ixc ((hs.c.le l13).le h.le) (by decide) (by omega) (by omega) λa cc x hx hr hc=> ?_;rw [N5] at hx hr;rw [show cc= #[.string x] from hc] at hr;have hxm:x∈g.conds:=TU hx;refine ⟨_,aS hr rfl,?_⟩;refine h.runv (ox x (hz.c x hxm)) λG4 F4 l4 h=>⟨_,rfl,λhb=> ?_,λhb=>⟨λhb2=> ?_,λhb2=>⟨λhb3=> ?_,λhb3=> ?_⟩⟩⟩
  ·exact bad (aa l13 (aa l4 h.le)) λhn=>by rw [(hn.1 x hxm).1] at hb;cases hb
  ·exact bad (aa l13 (aa l4 h.le)) λhn=>(hn.1 x hxm).2.1 (by rw [pZ] at hb2;exact of_decide_eq_true hb2)
  ·exact bad (aa l13 (aa l4 h.le)) λhn=>(hn.1 x hxm).2.2 (by rw [pZ] at hb3;exact of_decide_eq_true hb3)
  ·refine oJ h (aG (aa l3 l4) hcn) x λG5 F5 l5 h=> ?_;have l15:=aa l13 (aa l4 l5);refine ⟨_,rfl,λhb4=> ?_,λhb4=> ?_⟩
   ·refine bad (aa l15 h.le) λhn=> ?_;have:=kQ hn.2.1 (k+1);rw [bE hx,fz] at this;rw [decide_eq_true this.2] at hb4;cases hb4
   ·rw [aH hlt (by omega)];have hb4:x≠emp/\x ∉ g.conds.take k:=by simpa using hb4
    rw [<- bE hx] at h;refine next _ hlt ⟨G5,aa l3 (aa l4 l5),h,λs hs=> ?_,?_⟩
    ·rw [bE hx] at hs;rcases TR.1 hs with hs|hs
     ·exact hi s hs
     ·rw [TO.1 hs];rw [pZ] at hb2 hb3;exact ⟨by simpa using hb,of_decide_eq_false hb2,of_decide_eq_false hb3⟩
    ·rw [bE hx,fz];exact ⟨hi2,hb4⟩
 ·have e:k=g.conds.length:=by omega
  subst e;rw [T2] at hi hi2;unfold Ds;refine ⟨#[n.v,vi g.fam.2],rfl,kq (h.le _ _ (l13 _ _ q1)) rfl,_,ld (h.le _ _ (l13 _ _ q1)) rfl,?_⟩;dsimp only;rw [ec];refine h.runv (gE (d:=g.fam) (DV.mk (hs.n.le l13))) λG4 F4 l4 h=>⟨_,rfl,λhb=> ?_,λhb=> ?_⟩
  ·refine bad (aa l13 (aa l4 h.le)) λhn=> ?_;have:pS g.fam g.conds.length=true:=cH.2 hn.2.2.1;rw [this] at hb;cases hb
  ·refine ⟨_,ld (h.le _ _ (l4 _ _ (l13 _ _ q1))) rfl,λh0=> ?_,λh0=> ?_⟩
   ·exact bad (aa l13 (aa l4 h.le)) λhn=>hn.2.2.2 h0
   ·refine ⟨?_,aa l1 (aa l13 (aa l4 h.le))⟩;rw [if_pos ⟨hi,hi2,cH.1 (by simpa using hb),h0⟩]
def iZ (g:Gr):Prop:=bA g.nons/\0<=g.start/\g.start<g.nons.length
open Classical in
theorem pU {F:PH} {v:Γ} {g:Gr} (hg:GV F v g) (hl:g.nons.length<=2000):aj prog 91 #[.agg v] F λr F'=>r=vi (if iZ g then 0 else 50)/\F.le F':=by
 obtain ⟨c,n,t,s,p,l,f,rfl,hs⟩:=hg;have es:=hs.s.len (by decide);refine RC ?_;unfold Nf;refine fresh λb1 F1 l1 q1 _=> ?_;replace hs:=hs.le l1;refine (gV F1).mono ?_;rintro _ F2 ⟨G2,bn,m,rfl,l2,hcn,h⟩;refine ⟨_,rfl,_,ld (h.le _ _ (l2 _ _ q1)) rfl,?_⟩;have bad:∀{F'},F1.le F'->¬iZ g->(vi 50=vi (if iZ g then 0 else 50)/\F.le F'):=λ{F'} l hn=>⟨by rw [if_neg hn],aa l1 l⟩;refine bD (yi · b1 (wB bn) s _) g.nons.length (λk F'=>∃G,G2.le G/\St G F' [bF m (g.nons.take k).reverse]/\bA (g.nons.take k))
  ⟨G2,aq _,h,by simp [bA]⟩ ?_
 rintro k F3 N hk ⟨G3,l3,h,hi2⟩ next;have l13:=aa l2 l3;unfold yi;refine ⟨λhlt=> ?_,λhge=> ?_⟩
 ·have hlt:k<g.nons.length:=by omega
  refine ixc ((hs.s.le l13).le h.le) (by decide) (by omega) (by omega) λa cc x hx hr hc=> ?_;rw [N5] at hx hr;rw [show cc= #[.string x] from hc] at hr;refine ⟨_,aS hr rfl,?_⟩;refine oJ h (aG l3 hcn) x λG5 F5 l5 h=> ?_;have l15:=aa l13 l5;refine ⟨_,rfl,λhb4=> ?_,λhb4=> ?_⟩
  ·refine bad (aa l15 h.le) λhn=> ?_;have:=kQ hn.1 (k+1);rw [bE hx,fz] at this;rw [decide_eq_true this.2] at hb4;cases hb4
  ·rw [aH hlt (by omega)];have hb4:x≠emp/\x ∉ g.nons.take k:=by simpa using hb4
   rw [<- bE hx] at h;refine next _ hlt ⟨G5,aa l3 l5,h,?_⟩;rw [bE hx,fz];exact ⟨hi2,hb4⟩
 ·have e:k=g.nons.length:=by omega
  subst e;rw [T2] at hi2;unfold Du;have q:=h.le _ _ (l13 _ _ q1);refine ⟨_,ld q rfl,λh0=>bad (aa l13 h.le) λhn=>by have:=hn.2.1;omega,λh0=>⟨_,ld q rfl,_,ld q rfl,λh1=>bad (aa l13 h.le) λhn=>by have:=hn.2.2;omega,λh1=>⟨?_,aa l1 (aa l13 h.le)⟩⟩⟩;rw [if_pos ⟨hi2,by omega,by omega⟩]
inductive Scl:TypeId->Value->Value->Bool->Prop
 |int {t:TypeId} {k:IntKind} {a b:Int}:prog.underlying t=some (.int k)->Scl t (.int k a) (.int k b) (decide (a=b))
 |bool {t:TypeId} {a b:Bool}:prog.underlying t=some .bool->Scl t (.bool a) (.bool b) (decide (a=b))
theorem Scl.eq {t:TypeId} {v w:Value} {r:Bool} (h:Scl t v w r) (d:Nat) (F:PH):rdo prog (Op.equalIn (d+1) t v w) F r:=by
 cases h with
 | @int k a b ht=>exact A5 t k ht d a b
 | @bool a b ht=>simp only [Op.equalIn,ai];refine ⟨_,(aw ht _).2 rfl,?_⟩;show (a==b)=decide (a=b);cases a<;>cases b<;>rfl
theorem Scl.part {t:TypeId} {v w:Value} {r:Bool} (h:Scl t v w r) {cs:Γ} {off:Nat} {x:Value} (hx:cs[off]? =some x) (F:PH):rdo prog (part t cs off) F x:=by
 have ha:∀d,prog.underlying t=some d->((∃k,d=.int k)\/d=.bool)->rdo prog (Go.part t cs off) F x:=λd hd hk=>by unfold Go.part;simp only [ai];refine ⟨false,(dy hd _).2 (by rcases hk with ⟨k,rfl⟩|rfl<;>rfl),?_⟩;simp only [Uo,if_false,hx];rfl
 cases h with
 | @int k a b ht=>exact ha _ ht (.inl ⟨k,rfl⟩)
 | @bool a b ht=>exact ha _ ht (.inr rfl)
theorem wy {t:TypeId} {fs:Array Field} (ht:prog.underlying t=some (.struct fs)) (hsi:prog.stoodInHeld t=false) {cs ds:Γ} (e:Field->Bool)
  (hall:∀f∈fs.toList,f.name≠ "_"/\∃v w,cs[f.offset]? =some v/\ds[f.offset]? =some w/\Scl f.type v w (e f)) (F:PH):
  rdo prog (Op.equal t (.agg cs) (.agg ds)) F (fs.toList.all e):=by
 unfold Op.equal Op.maxDepth;show rdo prog (Op.equalIn (9998+1+1) t _ _) _ _;unfold Op.equalIn;simp only [ai];refine ⟨_,(aw ht _).2 rfl,?_⟩;dsimp only;rw [ai];refine ⟨prog,rfl,?_⟩;rw [hsi];simp only [Uo,if_false];rw [<- Array.forIn_toList,ai];refine ⟨_,yW _ e _ λf hf=> ?_,?_⟩
 ·obtain ⟨h1,v,w,h2,h3,h4⟩:=hall f hf;rw [if_pos h1];simp only [ai];refine ⟨_,h4.part h2 F,_,h4.part h3 F,_,h4.eq 9998 F,?_⟩;cases e f<;>rfl
 ·cases fs.toList.all e<;>rfl
theorem M5 (x y:Sy) (F:PH):rdo prog (Op.equal 63 (.agg x.arr) (.agg y.arr)) F (decide (x=y)):=by
 have h:=wy (t:=63) underlying63 (by kernel_rfl) (cs:=x.arr) (ds:=y.arr) (λf=>if f.offset=0 then decide (x.t=y.t) else decide (x.i=y.i)) (λf hf=>by
  simp only [TN,US,or_false] at hf;rcases hf with rfl|rfl
  ·exact ⟨by decide,_,_,rfl,rfl,.bool underlying4⟩
  ·exact ⟨by decide,_,_,rfl,rfl,.int underlying3⟩) F
 refine cast ?_ h;congr 1;cases x;cases y;rw [TW];simp [Sy.mk.injEq]
abbrev Sco.arr (s:Sco):Γ:= #[.bool s.o,vi s.d,vi s.k,vi s.u,vi s.a]
theorem IU (x y:Sco) (F:PH):rdo prog (Op.equal 53 (.agg x.arr) (.agg y.arr)) F (decide (x=y)):=by
 have h:=wy (t:=53) underlying53 (by kernel_rfl) (cs:=x.arr) (ds:=y.arr)
  (λf=>if f.offset=0 then decide (x.o=y.o) else if f.offset=1 then decide (x.d=y.d) else if f.offset=2 then decide (x.k=y.k) else if f.offset=3 then decide (x.u=y.u) else decide (x.a=y.a)) (λf hf=>by
  simp only [TN,US,or_false] at hf;rcases hf with rfl|rfl|rfl|rfl|rfl
  ·exact ⟨by decide,_,_,rfl,rfl,.bool underlying4⟩
  all_goals exact ⟨by decide,_,_,rfl,rfl,.int underlying3⟩) F
 refine cast ?_ h;congr 1;cases x;cases y;rw [TW];simp [Sco.mk.injEq]
def mH (g:Gr) (s:Sy):Prop:=0<=s.i/\(s.t=false->s.i<g.nons.length)/\(s.t=true->∃t,g.toks[s.i.toNat]? =some t/\t.cls=0)
instance (g:Gr) (s:Sy):Decidable (mH g s):=by
 have:Decidable (∃t,g.toks[s.i.toNat]? =some t/\t.cls=0):=by
  cases h:g.toks[s.i.toNat]? with
  |none=>exact isFalse λ⟨t,h1,_⟩=>by cases h1
  |some t=>exact decidable_of_iff (t.cls=0) ⟨λe=>⟨t,rfl,e⟩,λ⟨u,h1,h2⟩=>by cases h1;exact h2⟩
 unfold mH;exact inferInstance
theorem wz {F:PH} {v:Γ} {g:Gr} (hg:GV F v g) (x:Sy):aj prog 147 #[.agg v,.agg x.arr] F λr F'=>r=.bool (decide (mH g x))/\F.le F':=by
 obtain ⟨c,n,t,s,p,l,f,rfl,hs⟩:=hg;refine Np ?_;unfold I0;refine fresh λb2 F1 l1 q1 _=> ?_;refine fresh λb3 F2 l2 q2 _=> ?_;replace q1:=l2 _ _ q1;replace l1:=aa l1 l2;have es:=hs.s.len (by decide);have et:=hs.t.len (by decide);obtain ⟨xt,xi⟩:=x;have no:¬mH g ⟨xt,xi⟩->(Value.bool false=.bool (decide (mH g ⟨xt,xi⟩))/\F.le F2):=λh=>⟨by rw [decide_eq_false h],l1⟩;refine ⟨_,ld q2 rfl,λh=>⟨_,ld q2 rfl,λh0=>⟨_,ld q2 rfl,_,ld q1 rfl,?_,l1⟩,λh0=>no λhp=>h0 hp.1⟩,λh=>⟨_,ld q2 rfl,λh0=>⟨_,ld q2 rfl,_,ld q1 rfl,λh1=>⟨_,ld q1 rfl,_,ld q2 rfl,?_⟩,λh1=>no λhp=> ?_⟩,λh0=>no λhp=>h0 hp.1⟩⟩
 ·have h:xt=false:=by simpa using h
  subst h;congr 1;rw [TW,decide_eq_true_eq,decide_eq_true_eq];exact ⟨λh1=>⟨h0,λ_=>by dsimp only at h1 ⊢;omega,λh=>(by cases h)⟩,λhp=>by have:=hp.2.1 rfl;dsimp only at this ⊢;omega⟩
 ·have h:xt=true:=by simpa using h
  subst h;refine ixc (hs.t.le l1) (by decide) h0 h1 λa cc y hy hr hc=> ?_;obtain ⟨pp,nn,rfl,_,_⟩:=hc;refine ⟨_,bQ hr rfl,?_,l1⟩;congr 1;rw [TW,decide_eq_true_eq,decide_eq_true_eq]
  exact ⟨λh1=>⟨h0,λh=>(by cases h),λ_=>⟨y,hy,h1⟩⟩,λhp=>by
   obtain ⟨z,hz,h2⟩:=hp.2.2 rfl;rw [hy] at hz;cases hz
   exact h2⟩
 ·have h:xt=true:=by simpa using h
  subst h;obtain ⟨z,hz,_⟩:=hp.2.2 rfl;have:=(N6.1 hz).1;dsimp only at this h1;omega
def eA (r:List Sy) (k v lo hi:Int):Prop:=(k=0/\v=0)\/(0<k/\k<=r.length/\(∃s,r[(k - 1).toNat]? =some s/\s.t=true)/\lo<=v/\v<=hi)
def yc (r:List Sy) (x:Cn):Prop:=1<=x.k/\x.k<=4/\0<=x.a/\x.a<r.length/\0<=x.b/\x.b<r.length/\(x.k=1->x.b=0)
def pV:Sco:=⟨false,0,0,0,0⟩
def yd (p:Pr):Prop:=p.right.length=3/\p.rank=0/\p.lay=[]/\p.sco=pV/\(∃s,p.right[0]? =some s/\s.t=true)/\p.right[1]? =some ⟨false,p.left⟩/\(∃s,p.right[2]? =some s/\s.t=true)
def mI (p:Pr):Prop:=(∀x∈p.lay,yc p.right x)/\eA p.right p.sco.d p.sco.k 1 7/\eA p.right p.sco.u p.sco.a 0 255/\(p.brk=true->yd p)
open Classical in
theorem pW {F:PH} {b:Nat} {x:Pr} {r n l:Sl} (hr:RL F r x.right) (q:F b=some (.cells (x.arr r n l) 55)) (k v lo hi:Int) (hk:x.right.length<=16):
  aj prog 189 #[vi k,vi v,vi lo,vi hi,.pointer (some ⟨b,0,none⟩)] F λres F'=>res=.bool (decide (eA x.right k v lo hi))/\F.le F':=by
 refine NA ?_;unfold Ji;have er:=hr.len (by decide);have no:¬eA x.right k v lo hi->(Value.bool false=.bool (decide (eA x.right k v lo hi))/\F.le F):=λh=>⟨by rw [decide_eq_false h],aq F⟩;have hcell:F.cell (Addr.add (Addr.mk b 0 none) 2)=some r.v:=by rw [aC];exact ld q rfl
 refine ⟨λh0=>⟨?_,aq F⟩,λh0=>⟨λh1=>⟨_,rfl,_,hcell,λh2=>⟨_,hcell,?_⟩,λh2=>no ?_⟩,λh1=>no ?_⟩⟩
 ·congr 1;rw [TW,decide_eq_true_eq,decide_eq_true_eq];exact ⟨λh=> .inl ⟨h0,h⟩,λh=>h.elim (λh=>h.2) λh=>by omega⟩
 ·have ew:IntKind.i64.wrap (k - 1)=k - 1:=aP (by omega) (by omega);rw [ew];refine ixc hr (by decide) (by omega) (by omega) λa c s hs hrow hc=> ?_;rw [show c=s.arr from hc] at hrow;refine ⟨_,aS hrow rfl,λht=>⟨λh3=>⟨?_,aq F⟩,λh3=>no ?_⟩,λht=>no ?_⟩
  ·congr 1;rw [TW,decide_eq_true_eq,decide_eq_true_eq];exact ⟨λh=> .inr ⟨h1,by omega,⟨s,hs,ht⟩,h3,h⟩,λh=>h.elim (λh=>by omega) λh=>h.2.2.2.2⟩
  ·rintro (h|h)
   ·omega
   ·exact h3 h.2.2.2.1
  ·rintro (h|h)
   ·omega
   ·obtain ⟨s',hs',ht'⟩:=h.2.2.1;rw [hs] at hs';cases hs';rw [ht] at ht';cases ht'
 ·rintro (h|h)
  ·omega
  ·omega
 ·rintro (h|h)
  ·omega
  ·omega
theorem pX {F:PH} {b:Nat} {x:Pr} {r n l:Sl} (hr:RL F r x.right) (q:F b=some (.cells (x.arr r n l) 55)) (i:Int):
  aj prog 188 #[vi i,.pointer (some ⟨b,0,none⟩)] F λres F'=>res=.bool (decide (0<=i/\i<x.right.length))/\F.le F':=by
 refine Nz ?_;unfold Jh;have er:=hr.len (by decide);have hcell:F.cell (Addr.add (Addr.mk b 0 none) 2)=some r.v:=by rw [aC];exact ld q rfl
 refine ⟨λh=>⟨_,rfl,_,hcell,?_,aq F⟩,λh=>⟨?_,aq F⟩⟩
 ·congr 1;rw [TW,decide_eq_true_eq,decide_eq_true_eq];omega
 ·rw [decide_eq_false (λhn=>h hn.1)]
open Classical in
theorem uq {F:PH} {v:Γ} {x:Pr} (hp:Mem.rep F x v) (h1:x.right.length<=16) (h2:x.lay.length<=16):aj prog 149 #[.agg v] F λr F'=>r=.bool (decide (mI x))/\F.le F':=by
 obtain ⟨r,n,l,rfl,hr,hn,hl⟩:=hp;have er:=hr.len (by decide);have el:=hl.len (by decide);refine Nq ?_;unfold Ja;refine fresh λb1 F1 l1 q1 _=>⟨_,ld q1 rfl,?_⟩;replace hr:=hr.le l1;replace hl:=hl.le l1;have no:∀{F':PH},F1.le F'->¬mI x->(Value.bool false=.bool (decide (mI x))/\F.le F'):=λ{F'} l h=>⟨by rw [decide_eq_false h],aa l1 l⟩;refine bD (uv · b1 l _) x.lay.length (λk F'=>F1.le F'/\∀y∈x.lay.take k,yc x.right y) ⟨aq _,by simp⟩ ?_;rintro k F2 N hk ⟨l2,hi⟩ next;unfold uv;refine ⟨λhlt=> ?_,λhge=> ?_⟩
 ·have hlt:k<x.lay.length:=by omega
  refine ixc (hl.le l2) (by decide) (by omega) (by omega) λa c y hy hrow hc=> ?_;rw [show c=y.arr from hc] at hrow;rw [N5] at hy hrow;have hym:y∈x.lay:=TU hy;refine ⟨_,rfl,hrow,?_⟩;refine (St.start F2).new λb4 F3 h=> ?_;refine h.put0 (w':=y.arr) rfl rfl (by simp [al]) λF4 h=> ?_;obtain ⟨_,_,q4,h⟩:∃G',F2.le G'/\G' b4=some (.cells y.arr 153)/\G'.le F4:=h.pinb (K:=λF4=>∃G',F2.le G'/\G' b4=some (.cells y.arr 153)/\G'.le F4) λG' l q h=>⟨G',l,q,h.le⟩;have l4:F2.le F4:=aa ‹F2.le _› h;replace q4:=h _ _ q4;replace l4:=aa l2 l4;have good:yc x.right y->∀F5,F1.le F5->oL N b1 l (k:Int) (λr F'=>r=.bool (decide (mI x))/\F.le F') F5:=λhg F5 l5=>by
   unfold oL;rw [aH hlt (by omega)];refine next _ hlt ⟨l5,λz hz=> ?_⟩;rw [bE hy] at hz;rcases TR.1 hz with hz|hz
   ·exact hi z hz
   ·rw [TO.1 hz];exact hg
  have bad:∀{F':PH},F1.le F'->¬yc x.right y->(Value.bool false=.bool (decide (mI x))/\F.le F'):=λ{F'} l h=>no l λhd=>h (hd.1 y hym);refine ⟨_,ld q4 rfl,λh=>bad l4 λhp=>by have:=hp.1;omega,λk1=>⟨_,ld q4 rfl,λh=>bad l4 λhp=>by have:=hp.2.1;omega,λk2=>⟨_,ld q4 rfl,?_⟩⟩⟩;refine (pX (hr.le l4) (l4 _ _ q1) y.a).mono ?_;rintro _ F5 ⟨rfl,l5⟩;refine ⟨_,rfl,λh=>bad (aa l4 l5) λhp=> ?_,λk3=>⟨_,ld (l5 _ _ q4) rfl,?_⟩⟩
  ·rw [decide_eq_true ⟨hp.2.2.1,hp.2.2.2.1⟩] at h;cases h
  refine (pX (hr.le (aa l4 l5)) (l5 _ _ (l4 _ _ q1)) y.b).mono ?_;rintro _ F6 ⟨rfl,l6⟩;have l46:=aa l4 (aa l5 l6);have q6:=l6 _ _ (l5 _ _ q4);refine ⟨_,rfl,λh=>bad l46 λhp=> ?_,λk4=>⟨_,ld q6 rfl,λk5=>⟨_,ld q6 rfl,λk6=>bad l46 λhp=>k6 (hp.2.2.2.2.2.2 k5),λk6=>good ?_ _ l46⟩,λk5=>good ?_ _ l46⟩⟩
  ·rw [decide_eq_true ⟨hp.2.2.2.2.1,hp.2.2.2.2.2.1⟩] at h;cases h
  ·simp at k3 k4;exact ⟨by omega,by omega,k3.1,k3.2,k4.1,k4.2,λ_=>by omega⟩
  ·simp at k3 k4;exact ⟨by omega,by omega,k3.1,k3.2,k4.1,k4.2,λh=>absurd h k5⟩
 ·have e:k=x.lay.length:=by omega
  subst e;rw [T2] at hi;unfold Ar;refine ⟨x.sco.arr,rfl,kq (l2 _ _ q1) rfl,?_⟩;refine (St.start F2).new λb7 F3 h=> ?_;refine h.put0 (w':=x.sco.arr) rfl rfl (by simp [al]) λF4 h=> ?_;obtain ⟨_,_,q4,h⟩:∃G',F2.le G'/\G' b7=some (.cells x.sco.arr 53)/\G'.le F4:=h.pinb (K:=λF4=>∃G',F2.le G'/\G' b7=some (.cells x.sco.arr 53)/\G'.le F4) λG' l q h=>⟨G',l,q,h.le⟩;have l4:F2.le F4:=aa ‹F2.le _› h;replace q4:=h _ _ q4;replace l4:=aa l2 l4;refine ⟨_,ld q4 rfl,_,ld q4 rfl,?_⟩;refine (pW (hr.le l4) (l4 _ _ q1) x.sco.d x.sco.k 1 7 h1).mono ?_;rintro _ F5 ⟨rfl,l5⟩;refine ⟨_,rfl,λh=>no (aa l4 l5) λhp=> ?_,λk3=>⟨_,ld (l5 _ _ q4) rfl,_,ld (l5 _ _ q4) rfl,?_⟩⟩
  ·rw [decide_eq_true hp.2.1] at h;cases h
  refine (pW (hr.le (aa l4 l5)) (l5 _ _ (l4 _ _ q1)) x.sco.u x.sco.a 0 255 h1).mono ?_;rintro _ F6 ⟨rfl,l6⟩;have l46:=aa l4 (aa l5 l6);have q6:=l6 _ _ (l5 _ _ q4);have p1:=l46 _ _ q1;refine ⟨_,rfl,λh=>no l46 λhp=> ?_,λk4=> ?_⟩
  ·rw [decide_eq_true hp.2.2.1] at h;cases h
  have k3:eA x.right x.sco.d x.sco.k 1 7:=by simpa using k3
  have k4:eA x.right x.sco.u x.sco.a 0 255:=by simpa using k4
  refine ⟨_,ld p1 rfl,λhb=>⟨?_,aa l1 l46⟩,λhb=> ?_⟩
  ·rw [decide_eq_true ⟨hi,k3,k4,λh=>by rw [h] at hb;cases hb⟩]
  have hb:x.brk=true:=by simpa using hb
  have nob:¬yd x->(Value.bool false=.bool (decide (mI x))/\F.le F6):=λh=>no l46 λhp=>h (hp.2.2.2 hb);refine ⟨_,ld p1 rfl,λh=>nob λhp=>h (by have:=hp.1;omega),λk5=>⟨_,ld p1 rfl,λh=>nob λhp=>h hp.2.1,λk6=>⟨_,ld p1 rfl,λh=>nob λhp=> ?_,λk7=>⟨_,rfl,ac q6,_,λF=>IU x.sco pV F,λh=>nob λhp=> ?_,λk8=> ?_⟩⟩⟩⟩
  ·have:=hp.2.2.1;rw [this] at el;simp at el;omega
  ·rw [decide_eq_true hp.2.2.2.1] at h;cases h
  have k8:x.sco=pV:=by simpa using k8
  have hr6:=hr.le l46;refine ⟨_,ld p1 rfl,ixc hr6 (by decide) (by omega) (by omega) λa c y hy hrow hc=> ?_⟩;rw [show c=y.arr from hc] at hrow;refine ⟨_,aS hrow rfl,λk9=>⟨_,ld p1 rfl,ixc hr6 (by decide) (by omega) (by omega) λa c z hz hrow hc=> ?_⟩,λk9=>nob λhp=> ?_⟩
  ·rw [show c=z.arr from hc] at hrow;refine ⟨_,rfl,hrow,_,ld p1 rfl,_,λF=>M5 z ⟨false,x.left⟩ F,λk10=>⟨_,ld p1 rfl,ixc hr6 (by decide) (by omega) (by omega) λa c w hw hrow hc=> ?_⟩,λk10=>nob λhp=> ?_⟩
   ·rw [show c=w.arr from hc] at hrow;refine ⟨_,aS hrow rfl,?_,aa l1 l46⟩;have k10:z=⟨false,x.left⟩:=by simpa using k10
    subst k10;congr 1;cases hwt:w.t with
    |true=>refine (decide_eq_true ⟨hi,k3,k4,λ_=>⟨by omega,Classical.not_not.1 k6,?_,k8,⟨y,hy,k9⟩,hz,⟨w,hw,hwt⟩⟩⟩).symm;exact T4 (by omega)
    |false=>refine (decide_eq_false λhp=> ?_).symm;obtain ⟨s,hs,hst⟩:=(hp.2.2.2 hb).2.2.2.2.2.2;rw [show x.right[2]? =some w from hw] at hs;cases hs;rw [hwt] at hst;cases hst
   ·have e:some z=_:=hz.symm.trans hp.2.2.2.2.2.1;cases e;simp at k10
  ·obtain ⟨s,hs,hst⟩:=hp.2.2.2.2.1;have e:some y=_:=hy.symm.trans hs;cases e;rw [k9] at hst;cases hst
theorem St.var {G F:PH} {As:List (Ψ)} (h:St G F As) {n:Nat} {z w:Γ} {e:TypeId} {K:Nat->Ψ} (hst:∀x∈w.toList,al x)
  (k:∀b G' F',G.le G'->G' b=some (.cells w e)->St G' F' As->K b F') (hz:z.size=n:=by rfl) (hw:w.size=n:=by rfl):∀b,F b=none->atF (F.set b (.cells z e)) λF=>az F (Addr.mk b 0 none) n w (K b):=by
 refine h.new λb F1 h=> ?_;refine h.put0 hw hz hst λF2 h=> ?_;exact h.pinb λG' l q h=>k b G' F2 l q h
theorem var1 {F:PH} {n:Nat} {z w:Γ} {e:TypeId} {K:Nat->Ψ} (hst:∀x∈w.toList,al x)
  (k:∀b F',F.le F'->F' b=some (.cells w e)->K b F') (hz:z.size=n:=by rfl) (hw:w.size=n:=by rfl):∀b,F b=none->atF (F.set b (.cells z e)) λF=>az F (Addr.mk b 0 none) n w (K b):=
 (St.start F).var hst (λb _ F' l q h=>k b F' (aa l h.le) (h.le _ _ q)) hz hw
theorem St.ix {α:Type} [Mem α] {G F:PH} {As:List (Ψ)} (h:St G F As) {s:Sl} {l:List α} (hl:RL G s l) (hn:0<Mem.n α) {i:Int} (h0:0<=i) (h1:i<(s.len:Int)) {K:Addr->Prop}
  (k:∀a c x,l[i.toNat]? =some x->F.row (a.add (i.toNat*Mem.n α)) c->Mem.rep G x c->K a):∃a,s.base=some a/\0<=i/\i<(s.len:Int)/\K a:=
 ixc hl hn h0 h1 λa c x hx hr hc=>k a c x hx (aW h.le hr) hc
section
variable {K:Type} [DecidableEq K] {enc:K->Value} {f:K->Option Value} {m:Nat} {G F:PH} {As:List (Ψ)} {t:TypeId} {z:Value}
def mpE (m:Nat) (enc:K->Value) (f:K->Option Value):Ψ:=λH=>∃o,H m=some o/\d8 enc f o
theorem St.newMap (h:St G F As) (enc:K->Value) {Q:Nat->Ψ} (k:∀b F',St G F' (mpE b enc (λ_=>none)::As)->Q b F'):∀b,F b=none->atF (F.set b (.map #[] 0)) (Q b):=λb hb=>by
 refine atI (k b _ (h.push (H:=PH.set (λ_=>none) b (.map #[] 0)) ⟨_,ak _ _ _,d8.empty enc⟩ (λx hx=> ?_) (λx p hx=> ?_) (ae _ hb)))
 ·by_cases e:x=b
  ·rw [e];exact hb
  ·rw [au _ _ e] at hx;exact absurd rfl hx
 ·by_cases e:x=b
  ·rw [e,ak] at hx ⊢;exact hx
  ·rw [au _ _ e] at hx;cases hx
theorem St.lookAt (h:St G F As) {i:Nat} (hi:As[i]? =some (mpE m enc f)) (mt:fM prog t enc z) (k:K) (ok:Bool):rdo prog (Instr.lookup t (.map (some m)) (enc k) ok) F (if ok then .tuple #[(f k).getD z,.bool (f k).isSome] else (f k).getD z):=by obtain ⟨H,⟨o,h1,h2⟩,_,h3⟩:=h.get hi;exact bH mt (h3 _ _ h1) h2 k ok
theorem St.updAt (h:St G F As) (i:Nat) (hi:As[i]? =some (mpE m enc f)) (mt:fM prog t enc z) (k:K) (v:Value) {Q:Unit->Ψ} (kk:∀F',St G F' (As.set i (mpE m enc λk'=>if k'=k then some v else f k'))->Q () F'):
  aD prog (Instr.mapUpdate t (.map (some m)) (enc k) v) F Q:=by
 obtain ⟨H,⟨o,a1,a0⟩,a2,a3,a4⟩:=h.set (A':=mpE m enc λk'=>if k'=k then some v else f k') hi;refine aU mt (a3 _ _ a1) a0 k v λo' ho'=>kk _ ?_;refine a4 (H.set m o') _ ⟨o',ak _ _ _,ho'⟩ (λx hx=> ?_) (λx p hx=> ?_) (λx p hx hn=> ?_)
 ·by_cases e:x=m
  ·rw [e,a1];exact .inl (by simp)
  ·rw [au _ _ e] at hx;exact .inl hx
 ·by_cases e:x=m
  ·rw [e,ak] at hx ⊢;exact hx
  ·rw [au _ _ e] at hx ⊢;exact a3 _ _ hx
 ·have e:x≠m:=λe=>by rw [e,a1] at hn;cases hn
  rw [au _ _ e];exact hx
end
def Hc (g:Gr) (done:List ByteArray) (p:Pr):Prop:=p.name≠emp/\p.name ∉ done/\iK p.cond g.conds.length/\-1<=p.rank/\p.rank<=1/\mI p
def i6 (g:Gr) (p:Pr):Prop:=mH g ⟨false,p.left⟩/\∀s∈p.right,mH g s
open Classical in
noncomputable def eO (g:Gr) (done:List ByteArray):List Pr->Int
 |[]=>0
 |p::l=>if ¬i6 g p then 50 else if ¬Hc g done p then 52 else eO g (done++[p.name]) l
theorem cI {α:Type} {l:List α} {k:Nat} {x:α} (h:l[k]? =some x):l.drop k=x::l.drop (k+1):=by obtain ⟨hk,rfl⟩:=N6.1 h;exact List.drop_eq_getElem_cons hk
theorem Hd:aB prog 146=true:=by kernel_rfl
theorem pY {F:PH} {b:Nat} {v:Γ} {g:Gr} (hg:GV F v g) (q:F b=some (.cells v 37)) (x:Sy):aj prog 146 #[.agg x.arr,.pointer (some ⟨b,0,none⟩)] F λr F'=>r=.bool (!decide (mH g x))/\F.le F':=by refine No ?_;unfold IZ;refine fresh λb2 F1 l1 q1 _=>⟨_,rfl,v,hg.size,ac (l1 _ _ q),_,rfl,ac q1,?_⟩;refine (wz (hg.le l1) x).mono ?_;rintro _ F2 ⟨rfl,l2⟩;exact ⟨_,rfl,rfl,aa l1 l2⟩
theorem gF {g:Gr} (h:dQ g=false):g.conds.length<=64/\g.toks.length<=256/\g.fils.length<=4096/\g.nons.length<=2000/\g.prods.length<=2000/\g.lvs.length<=2000/\∀p∈g.prods,p.right.length<=16/\p.lay.length<=16:=by unfold dQ at h;rw [Bool.or_eq_false_iff,decide_eq_false_iff_not,List.any_eq_false] at h;obtain ⟨h1,h2⟩:=h;refine ⟨by omega,by omega,by omega,by omega,by omega,by omega,λp hp=> ?_⟩;have:=h2 p hp;simp only [decide_eq_true_eq] at this;omega
open Classical in
theorem ou {F:PH} {v:Γ} {g:Gr} (hg:GV F v g) (hl:dQ g=false):aj prog 92 #[.agg v] F λr F'=>r=vi (eO g [] g.prods)/\F.le F':=by
 obtain ⟨_,_,_,_,hlp,_,hlr⟩:=gF hl;have hg0:=hg;obtain ⟨c,n,t,s,p,l,f,rfl,hs⟩:=hg;have ec:=hs.c.len (by decide);have ep:=hs.p.len (by decide);refine RI ?_;unfold Ng;refine fresh λb1 F1 l1 q1 _=> ?_;replace hs:=hs.le l1;replace hg0:=hg0.le l1;refine (gV F1).mono ?_;rintro _ F2 ⟨G2,bn,m,rfl,l2,hcn,h⟩;refine ⟨_,rfl,_,ld (h.le _ _ (l2 _ _ q1)) rfl,?_⟩;refine bD (yj · b1 (wB bn) p _) g.prods.length (λk F'=>∃G,G2.le G/\St G F' [bF m ((g.prods.take k).map Pr.name).reverse]/\eO g [] g.prods=eO g ((g.prods.take k).map Pr.name) (g.prods.drop k))
  ⟨G2,aq _,h,by simp⟩ ?_
 rintro k F3 N hk ⟨G3,l3,h,hE⟩ next;have l13:=aa l2 l3;unfold yj;refine ⟨λhlt=> ?_,λhge=> ?_⟩
 ·have hlt:k<g.prods.length:=by omega
  refine h.ix (hs.p.le l13) (by decide) (by omega) (by omega) λa cc x hx hr hc=> ?_;rw [N5] at hx;have hxm:x∈g.prods:=TU hx;obtain ⟨hxr,hxl⟩:=hlr x hxm;have hE':=hE;rw [cI hx,eO] at hE';have hst:=Mem.st hc;have hc0:=hc;obtain ⟨rr,nn,ll,rfl,h1,h2,h3⟩:=hc;refine ⟨x.arr rr nn ll,rfl,hr,?_⟩;refine h.var hst λb5 G4 F4 l4 q5 h=> ?_;have bad50:∀{F'},G3.le F'->¬i6 g x->(vi 50=vi (eO g [] g.prods)/\F.le F'):=λ{F'} l hn=>⟨by rw [hE',if_pos hn],aa l1 (aa l13 l)⟩;have bad52:∀{F'},G3.le F'->i6 g x->¬Hc g ((g.prods.take k).map Pr.name) x->(vi 52=vi (eO g [] g.prods)/\F.le F'):=λ{F'} l h1 hn=>⟨by rw [hE',if_neg (λh=>h h1),if_pos hn],aa l1 (aa l13 l)⟩;refine ⟨_,ld (h.le _ _ q5) rfl,?_⟩;refine h.runv (pY (x:=⟨false,x.left⟩) (hg0.le (aa l13 l4)) (l4 _ _ (l13 _ _ q1))) λG5 F5 l5 h=>⟨_,rfl,λhb=>bad50 (aa l4 (aa l5 h.le)) λhn=> ?_,λhb=>⟨_,ld (h.le _ _ (l5 _ _ q5)) rfl,?_⟩⟩
  ·rw [decide_eq_true hn.1] at hb;cases hb
  have hs1:mH g ⟨false,x.left⟩:=by simpa using hb
  have l35:=aa l4 l5;have sp:aj prog 148 #[rr.v,.func (.func 146) #[] #[.pointer (some ⟨b1,0,none⟩)]] G5 λr F'=>r=.bool (x.right.any λs=> !decide (mH g s))/\G5.le F':=by
   refine O2 ?_;unfold J5
   refine (show aj prog 187 #[rr.v,.func (.func 146) #[] #[.pointer (some ⟨b1,0,none⟩)]] G5 (λr F'=>∃i,r=vi i/\(0<=i↔(x.right.any λs=> !decide (mH g s))=true)/\G5.le F')
    from O7 (yp (h1.le l35) (by decide) (by omega) Hd (λs=> !decide (mH g s)) λy hy c F6 l6 hc=> ?_)).mono ?_
   ·rw [show c=y.arr from hc];exact pY (hg0.le (aa l13 (aa l35 l6))) (l6 _ _ (l35 _ _ (l13 _ _ q1))) y
   ·rintro _ F6 ⟨i,rfl,hi,l6⟩;refine ⟨_,rfl,?_,l6⟩;congr 1;rw [TW,decide_eq_true_eq];exact hi
  refine h.runv sp λG6 F6 l6 h=>⟨_,rfl,λhb=>bad50 (aa l35 (aa l6 h.le)) λhn=> ?_,λhb=> ?_⟩
  ·obtain ⟨y,hy,hy2⟩:=UP.1 hb;rw [decide_eq_true (hn.2 y hy)] at hy2;cases hy2
  have hsy:i6 g x:=⟨hs1,λy hy=>by
   have:=List.any_eq_false.1 hb y hy
   simpa using this⟩
  replace l35:=aa l35 l6;have q6:=l6 _ _ (l5 _ _ q5);refine ⟨_,ld (h.le _ _ q6) rfl,?_⟩;refine oJ h (aG (aa l3 l35) hcn) x.name λG7 F7 l7 h=>⟨_,rfl,λhb=>bad52 (aa l35 (aa l7 h.le)) hsy λhn=> ?_,λhb=> ?_⟩
  ·rw [decide_eq_true ⟨hn.1,hn.2.1⟩] at hb;cases hb
  have hnm:x.name≠emp/\x.name ∉ (g.prods.take k).map Pr.name:=by simpa using hb
  replace l35:=aa l35 l7;have q7:=l7 _ _ q6;refine ⟨#[nn.v,vi x.cond.2],rfl,kq (h.le _ _ q7) rfl,_,ld (h.le _ _ (l35 _ _ (l13 _ _ q1))) rfl,?_⟩;dsimp only;rw [ec];refine h.runv (gE (d:=x.cond) (DV.mk (h2.le l35))) λG8 F8 l8 h=>⟨_,rfl,λhb=>bad52 (aa l35 (aa l8 h.le)) hsy λhn=> ?_,λhb=> ?_⟩
  ·rw [cH.2 hn.2.2.1] at hb;cases hb
  have hfit:iK x.cond g.conds.length:=cH.1 (by simpa using hb);replace l35:=aa l35 l8;have q8:=l8 _ _ q7;refine ⟨_,ld (h.le _ _ q8) rfl,λhb=>bad52 (aa l35 h.le) hsy λhn=>by have:=hn.2.2.2.1;omega,λhr1=>⟨_,ld (h.le _ _ q8) rfl,λhb=>bad52 (aa l35 h.le) hsy λhn=>by have:=hn.2.2.2.2.1;omega,λhr2=>⟨_,rfl,ac (h.le _ _ q8),?_⟩⟩⟩;refine h.runv (uq (Mem.le l35 hc0) hxr hxl) λG9 F9 l9 h=>⟨_,rfl,λhb=>bad52 (aa l35 (aa l9 h.le)) hsy λhn=> ?_,λhb=> ?_⟩
  ·rw [decide_eq_true hn.2.2.2.2.2] at hb;cases hb
  have hdet:mI x:=by simpa using hb
  rw [aH hlt (by omega)];have e:(g.prods.take k).map Pr.name++[x.name]=(g.prods.take (k+1)).map Pr.name:=by rw [bE hx,Ui];rfl
  refine next _ hlt ⟨G9,aa l3 (aa l35 l9),by rw [<- e];exact h,?_⟩;rw [hE',if_neg (λh=>h hsy),if_neg (λh=>h ⟨hnm.1,hnm.2,hfit,by omega,by omega,hdet⟩),e]
 ·have e:k=g.prods.length:=by omega
  subst e;rw [UI,eO] at hE;unfold Dv;exact ⟨by rw [hE],aa l1 (aa l13 h.le)⟩
def KY (g:Gr) (done:Φ) (l:Lv):Prop:=0<=l.assoc/\l.assoc<=3/\iK l.cond g.conds.length/\(∀p∈l.ps,0<=p/\p<g.prods.length)/\l.ps.Nodup/\∀p∈l.ps,p ∉ done
def eP (g:Gr) (done:Φ):List Lv->Prop
 |[]=>True
 |l::r=>KY g done l/\eP g (done++l.ps) r
def kR (l:Φ) (i:Int):Option Value:=if i∈l then some (.bool true) else none
theorem ye (l:Φ) (x:Int):kR (l++[x])=λk=>if k=x then some (.bool true) else kR l k:=by funext k;unfold kR;by_cases e:k=x<;>simp [e]
theorem M6:fM prog 186 aJ (.bool false):=⟨_,_,underlying186,NB,H0⟩
open Classical in
theorem mJ {F:PH} {v:Γ} {g:Gr} (hg:GV F v g) (hl:dQ g=false) (hz:Sz g):aj prog 93 #[.agg v] F λr F'=>r=vi (if eP g [] g.lvs then 0 else 53)/\F.le F':=by
 obtain ⟨_,_,_,_,hlp,hll,_⟩:=gF hl;obtain ⟨c,n,t,s,p,l,f,rfl,hs⟩:=hg;have ec:=hs.c.len (by decide);have ep:=hs.p.len (by decide);have el:=hs.l.len (by decide);refine RJ ?_;unfold Nh;refine fresh λb1 F1 l1 q1 _=> ?_;replace hs:=hs.le l1;refine (St.start F1).newMap aJ λb8 F2 h=> ?_;refine ⟨_,ld (h.le _ _ q1) rfl,?_⟩;refine bD (yl · b1 b8 l _) g.lvs.length (λk F'=>∃G,F1.le G/\St G F' [mpE b8 aJ (kR ((g.lvs.take k).flatMap Lv.ps))]/\(eP g [] g.lvs↔eP g ((g.lvs.take k).flatMap Lv.ps) (g.lvs.drop k)))
  ⟨F1,aq _,by rw [show kR ((g.lvs.take 0).flatMap Lv.ps)=λ_=>none from funext λi=>by simp [kR]];exact h,by simp⟩ ?_
 rintro k F3 N hk ⟨G3,l3,h,hE⟩ next;unfold yl;refine ⟨λhlt=> ?_,λhge=> ?_⟩
 ·have hlt:k<g.lvs.length:=by omega
  refine h.ix (hs.l.le l3) (by decide) (by omega) (by omega) λa cc x hx hr hc=> ?_;rw [N5] at hx;have hxm:x∈g.lvs:=TU hx;have hpl:=hz.l x hxm;rw [cI hx,eP] at hE;have hst:=Mem.st hc;obtain ⟨pp,nn,rfl,h1,h2⟩:=hc;have epp:=h1.len (by decide);refine ⟨x.arr pp nn,rfl,hr,?_⟩;refine h.var hst λb5 G4 F4 l4 q5 h=> ?_;have bad:∀{F'},G3.le F'->¬KY g ((g.lvs.take k).flatMap Lv.ps) x->(vi 53=vi (if eP g [] g.lvs then 0 else 53)/\F.le F'):=λ{F'} l hn=>⟨by rw [if_neg (λh=>hn (hE.1 h).1)],aa l1 (aa l3 l)⟩;refine ⟨_,ld (h.le _ _ q5) rfl,λhb=>bad (aa l4 h.le) λhn=>by have:=hn.1;omega,λk1=>⟨_,ld (h.le _ _ q5) rfl,λhb=>bad (aa l4 h.le) λhn=>by have:=hn.2.1;omega,λk2=>⟨#[nn.v,vi x.cond.2],rfl,kq (h.le _ _ q5) rfl,_,ld (h.le _ _ (l4 _ _ (l3 _ _ q1))) rfl,?_⟩⟩⟩;dsimp only;rw [ec];refine h.runv (gE (d:=x.cond) (DV.mk (h2.le l4))) λG5 F5 l5 h=>⟨_,rfl,λhb=>bad (aa l4 (aa l5 h.le)) λhn=> ?_,λhb=> ?_⟩
  ·rw [cH.2 hn.2.2.1] at hb;cases hb
  have hfit:iK x.cond g.conds.length:=cH.1 (by simpa using hb);have l35:=aa l4 l5;refine ⟨_,ld (h.le _ _ (l5 _ _ q5)) rfl,?_⟩;refine bD (yk N · b1 b8 l (k:Int) pp _) x.ps.length (λj F'=>∃G,G5.le G/\St G F' [mpE b8 aJ (kR ((g.lvs.take k).flatMap Lv.ps++x.ps.take j))]/\(∀p∈x.ps.take j,0<=p/\p<g.prods.length)/\(x.ps.take j).Nodup/\∀p∈x.ps.take j,p ∉ (g.lvs.take k).flatMap Lv.ps)
   ⟨G5,aq _,by simpa using h,by simp,by simp,by simp⟩ ?_
  rintro j F6 N2 hj ⟨G6,l6,h,i1,i2,i3⟩ next2;have l36:=aa l35 l6;unfold yk;refine ⟨λhlt2=> ?_,λhge2=> ?_⟩
  ·have hlt2:j<x.ps.length:=by omega
   refine h.ix (h1.le l36) (by decide) (by omega) (by omega) λa cc y hy hr hc=> ?_;rw [N5] at hy hr;rw [show cc= #[vi y] from hc] at hr;have hym:y∈x.ps:=TU hy;have hlk:=h.lookAt (i:=0) rfl M6 y false;refine ⟨_,aS hr rfl,λhb=>bad (aa l36 h.le) λhn=>by have:=(hn.2.2.2.1 y hym).1;omega,λy0=>⟨_,ld (h.le _ _ (l36 _ _ (l3 _ _ q1))) rfl,λhb=>bad (aa l36 h.le) λhn=>by have:=(hn.2.2.2.1 y hym).2;omega,λy1=> ?_⟩⟩;by_cases hu:y∈(g.lvs.take k).flatMap Lv.ps++x.ps.take j
   ·rw [show kR _ y=some (.bool true) from if_pos hu] at hlk;refine ⟨true,hlk,λ_=>bad (aa l36 h.le) λhn=> ?_,λh=>(by cases h)⟩;rcases TR.1 hu with hu|hu
    ·exact hn.2.2.2.2.2 y hym hu
    ·have hnd:=hn.2.2.2.2.1.sublist (List.take_sublist (j+1) x.ps);rw [bE hy,Uj] at hnd;exact hnd.2.2 y hu y (by simp) rfl
   ·rw [show kR _ y=none from if_neg hu] at hlk;refine ⟨false,hlk,λh=>(by cases h),λ_=> ?_⟩;refine h.updAt 0 rfl M6 y (.bool true) λF7 h=> ?_;rw [aH hlt2 (by omega)];rw [TR,not_or] at hu;refine next2 _ hlt2 ⟨G6,l6,?_,λp hp=> ?_,?_,λp hp=> ?_⟩
    ·rw [bE hy,<- Uf,ye];exact h
    ·rw [bE hy] at hp;rcases TR.1 hp with hp|hp
     ·exact i1 p hp
     ·rw [TO.1 hp];omega
    ·rw [bE hy,Uj];exact ⟨i2,by simp,λa ha b hb e=>hu.2 (by rw [<- TO.1 hb,<- e];exact ha)⟩
    ·rw [bE hy] at hp;rcases TR.1 hp with hp|hp
     ·exact i3 p hp
     ·rw [TO.1 hp];exact hu.1
  ·have e:j=x.ps.length:=by omega
   subst e;rw [T2] at i1 i2 i3 h;unfold Dx;rw [aH hlt (by omega)];have e:(g.lvs.take k).flatMap Lv.ps++x.ps=(g.lvs.take (k+1)).flatMap Lv.ps:=by rw [bE hx,Vh];simp
   rw [e] at h hE;refine next _ hlt ⟨G6,aa l3 l36,h,hE.trans ⟨λh=>h.2,λh=>⟨⟨by omega,by omega,hfit,i1,i2,i3⟩,h⟩⟩⟩
 ·have e:k=g.lvs.length:=by omega
  subst e;rw [UI,eP] at hE;unfold Dw;exact ⟨by rw [if_pos (hE.2 trivial)],aa l1 (aa l3 h.le)⟩
end Go.Proofs.YtcemhghkipgdiaaGreatDoor

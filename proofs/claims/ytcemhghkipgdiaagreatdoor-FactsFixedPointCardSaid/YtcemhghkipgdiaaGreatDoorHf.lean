/-
  Equality of structs of scalars; symbols; details of productions.
-/
import Derived.Test.YtcemhghkipgdiaaGreatDoorGgrammar
import Derived.Test.YtcemhghkipgdiaaGreatDoorGslices
namespace Go.Proofs.YtcemhghkipgdiaaGreatDoor
open Go Go.Proofs.Tryz
set_option maxRecDepth 10000
theorem pq (a b:ByteArray):(a.toList==b.toList)=decide (a=b):=by rw [Ey,SG,decide_eq_true_eq,decide_eq_true_eq];exact ⟨yo,λh=>by rw [h]⟩
theorem vF (a b:ByteArray):(a==b)=decide (a=b):=by show (a.data==b.data)=_;rw [SG,beq_iff_eq,decide_eq_true_eq];exact ⟨λh=>by cases a;cases b;cases h;rfl,λh=>by rw [h]⟩
instance:LawfulBEq ByteArray where
 eq_of_beq {a b} h:=by rw [vF] at h;exact of_decide_eq_true h
 rfl {a}:=by rw [vF];exact decide_eq_true rfl
abbrev emp:ByteArray:=ByteArray.mk #[]
theorem Qt:nq prog 9 Value.string:=by
 refine ⟨λF a b=> ?_,λF e a=> ?_,λa=> ?_,_,underlying9,.inl λa b=> ?_⟩
 ·unfold Op.equal Op.maxDepth;show rdo prog (Op.equalIn (9999+1) 9 (.string a) (.string b)) F _;unfold Op.equalIn;simp only [ai];refine ⟨_,(av underlying9 _).2 rfl,?_⟩;exact vF a b
 ·show rdo prog (Instr.checkKey e (9999+1) 9 (.string a)) F ();unfold Instr.checkKey;simp only [ai];exact ⟨_,(av underlying9 _).2 rfl,rfl⟩
 ·show (a==a)=true;rw [vF];simp
 ·show some (a==b)=_;rw [vF]
theorem Mc:bP prog 4=some (.bool false):=by kernel_rfl
theorem J0:fL prog 222 Value.string (.bool false):=⟨_,_,underlying222,Mc,Qt⟩
def gA (l:List ByteArray) (s:ByteArray):Option Value:=if s=emp\/s∈l then some (.bool true) else none
def bD (m:Nat) (l:List ByteArray):Ψ:=λH=>∃o,H m=some o/\dY Value.string (gA l) o
theorem St.mapAt {G F:PH} {As:List (Ψ)} {m:Nat} {l:List ByteArray} (h:St G F (bD m l::As)):∃o,F m=some o/\dY Value.string (gA l) o:=by obtain ⟨H,⟨o,h1,h2⟩,_,h3⟩:=h.get (i:=0) rfl;exact ⟨o,h3 _ _ h1,h2⟩
theorem St.mapSet {G F:PH} {As:List (Ψ)} {m:Nat} {l l':List ByteArray} {o':Obj} (h:St G F (bD m l::As)) (ho:dY Value.string (gA l') o'):St G (F.set m o') (bD m l'::As):=by
 obtain ⟨H,⟨o,a1,_⟩,a2,a3,a4⟩:=h.set (i:=0) (A':=bD m l') rfl;refine a4 (H.set m o') _ ⟨o',al _ _ _,ho⟩ (λx hx=> ?_) (λx p hx=> ?_) (λx p hx hn=> ?_)
 ·by_cases e:x=m
  ·rw [e,a1];exact .inl (by simp)
  ·rw [az _ _ e] at hx;exact .inl hx
 ·by_cases e:x=m
  ·rw [e,al] at hx ⊢;exact hx
  ·rw [az _ _ e] at hx ⊢;exact a3 _ _ hx
 ·have e:x≠m:=λe=>by rw [e,a1] at hn;cases hn
  rw [az _ _ e];exact hx
abbrev vG (b:Nat):Value:=.func (.func 179) #[] #[.pointer (some ⟨b,0,none⟩)]
theorem gP (F:PH):aj prog 141 #[] F λr F'=>∃G' b m,r=vG b/\F.le G'/\G'.cell ⟨b,0,none⟩=some (.map (some m))/\St G' F' [bD m []]:=by
 refine Mq ?_;unfold HP;intro m hm;refine atI ?_;refine aR J0 (al _ _ _) (dY.empty _) emp (.bool true) λo' ho'=> ?_;rw [bi];have hs:St F (F.set m o') [bD m []]:=by
  have ho2:dY Value.string (gA []) o':=by obtain ⟨es,c,L,h1,h2,h3⟩:=ho';refine ⟨es,c,L,h1,h2,λk=> ?_⟩;rw [<- h3 k];unfold gA;by_cases e:k=emp<;>simp [e]
  refine (St.start F).push (H:=PH.set (λ_=>none) m o') ⟨o',al _ _ _,ho2⟩ (λx hx=> ?_) (λx p hx=> ?_) (ae o' hm)
  ·by_cases e:x=m
   ·rw [e];exact hm
   ·rw [az _ _ e] at hx;exact absurd rfl hx
  ·by_cases e:x=m
   ·rw [e,al] at hx ⊢;exact hx
   ·rw [az _ _ e] at hx;cases hx
 refine hs.new λb1 F1 h=> ?_;refine h.set0 (by decide) rfl λF2 h=> ?_;refine h.pinb (K:=λF2=>∃G' b m,_=vG b/\F.le G'/\G'.cell ⟨b,0,none⟩=some (.map (some m))/\St G' F2 [bD m []]) λG' l q h=> ?_;exact ⟨G',b1,m,rfl,l,ld q rfl,h⟩
theorem xo {G F:PH} {b m:Nat} {l:List ByteArray} (h:St G F [bD m l]) (hc:G.cell ⟨b,0,none⟩=some (.map (some m))) (s:ByteArray):
  aj prog 179 #[.string s,.pointer (some ⟨b,0,none⟩)] F λr F'=>∃G',r=.bool (decide (s≠emp/\s ∉ l))/\G.le G'/\St G' F' [bD m (s::l)]:=by
 refine MA ?_;unfold HZ;obtain ⟨o,ho,hmo⟩:=h.mapAt;have hc':=aH h.le hc;have hlk:=bE (F:=F) J0 ho hmo s false;have hin:∀k,gA (s::l) k=if k=s then some (.bool true) else gA l k:=λk=>by
  unfold gA;by_cases e:k=s
  ·simp [e]
  ·simp [e]
 by_cases hs:s=emp\/s∈l
 ·have e1:gA l s=some (.bool true):=if_pos hs;rw [e1] at hlk;refine ⟨_,rfl,some m,hc',true,hlk,λ_=> ?_,λh=>(by cases h)⟩;have hd:decide (s≠emp/\s ∉ l)=false:=by
   rw [decide_eq_false_iff_not];rintro ⟨h1,h2⟩;rcases hs with h|h
   ·exact h1 h
   ·exact h2 h
  refine ⟨G,by rw [hd],aq G,?_⟩;have:bD m (s::l)=bD m l:=by
   unfold bD;funext H
   rw [show gA (s::l)=gA l from funext λk=>by
    rw [hin];by_cases e:k=s
    ·rw [if_pos e,e,e1]
    ·rw [if_neg e]]
  rw [this];exact h
 ·have e1:gA l s=none:=if_neg hs;rw [e1] at hlk;refine ⟨_,rfl,some m,hc',false,hlk,λh=>(by cases h),λ_=>⟨some m,hc',?_⟩⟩;refine aR J0 ho hmo s (.bool true) λo' ho'=> ?_;have hd:decide (s≠emp/\s ∉ l)=true:=by rw [decide_eq_true_eq];exact ⟨λe=>hs (.inl e),λe=>hs (.inr e)⟩
  refine ⟨G,by rw [hd],aq G,h.mapSet ?_⟩;rw [show gA (s::l)=_ from funext hin];exact ho'
theorem Md:aB prog 179=true:=by kernel_rfl
def nL (b:Nat):Prop:=(97<=b/\b<=122)\/(65<=b/\b<=90)\/b=95
def tM (b:Nat):Prop:=48<=b/\b<=57
instance (b:Nat):Decidable (nL b):=inferInstanceAs (Decidable (_\/_))
instance (b:Nat):Decidable (tM b):=inferInstanceAs (Decidable (_/\_))
def xp (l:Δ):Bool:=(List.range l.length).all (λi=>decide (nL (l.getD i 0)) || (i !=0 && decide (tM (l.getD i 0)))) && !l.isEmpty
def mX (s:ByteArray):Bool:=xp (bs s)
theorem J1 (s:ByteArray) (i:Nat) (h:i<s.size):(s[i]'h).toNat=(bs s).getD i 0:=by rw [<- Js];unfold cb;rw [dif_pos h]
theorem nN {F:PH} (s:ByteArray) (hs:s.size<=1000000000):aj prog 142 #[.string s] F λr F'=>r=.bool (mX s)/\F.le F':=by
 refine Mr ?_;unfold HQ;have hlen:=fE s;refine bu (tR · s _) s.size (λk F'=>F.le F'/\∀i,i<k->(nL ((bs s).getD i 0)\/(i≠0/\tM ((bs s).getD i 0)))) ⟨aq F,λi h=>by omega⟩ ?_;rintro k F1 N hk ⟨hl,hi⟩ next;unfold tR;refine ⟨λhlt=> ?_,λhge=> ?_⟩
 ·have hlt:k<s.size:=by omega
  refine ⟨by omega,by omega,by simpa using hlt,((bs s).getD k 0:Nat),?_,?_⟩
  ·rw [<- J1 s k hlt];rfl
  generalize hc:(bs s).getD k 0=c;have bad:¬(nL c\/(k≠0/\tM c))->Value.bool false=.bool (mX s)/\F.le F1:=λhn=>by
   refine ⟨?_,hl⟩;have:mX s=false:=by unfold mX xp;rw [Bool.and_eq_false_iff];refine .inl ?_;rw [List.all_eq_false];refine ⟨k,Tp.2 (by omega),?_⟩;rw [hc];simp only [Ty,decide_eq_true_eq,Tj,bne_iff_ne,ne_eq];exact hn
   rw [this]
  have good:(nL c\/(k≠0/\tM c))->nZ N s (k:Int) (λr F'=>r=.bool (mX s)/\F.le F') F1:=λhg=>by
   unfold nZ;rw [aE hlt (by omega)];refine next _ hlt ⟨hl,λi hi'=> ?_⟩;by_cases e:i=k
   ·rw [e,hc];exact hg
   ·exact hi i (by omega)
  have j3:∀t:Bool,(t=true↔nL c)->fq N s (k:Int) (c:Int) t (λr F'=>r=.bool (mX s)/\F.le F') F1:=λt ht=>by
   unfold fq;refine ⟨λh=> ?_,λh=>good (.inl (ht.1 (by simpa using h)))⟩;have hnl:¬nL c:=λhl'=>by rw [ht.2 hl'] at h;cases h
   refine ⟨λh0=>bad ?_,λh0=>⟨λh1=>bad ?_,λh1=>⟨λh2=>bad ?_,λh2=>good ?_⟩⟩⟩
   ·rintro (h|h)
    ·exact hnl h
    ·omega
   ·rintro (h|h)
    ·exact hnl h
    ·unfold tM at h;omega
   ·rintro (h|h)
    ·exact hnl h
    ·unfold tM at h;omega
   ·exact .inr ⟨by omega,by unfold tM;omega⟩
  refine ⟨λh1=>⟨λh2=>j3 _ ⟨λ_=>by unfold nL;omega,λ_=>rfl⟩,λh2=>⟨λh3=>⟨λh4=>j3 _ ⟨λ_=>by unfold nL;omega,λ_=>rfl⟩,λh4=>j3 _ ?_⟩,λh3=>j3 _ ?_⟩⟩,
   λh1=>⟨λh3=>⟨λh4=>j3 _ ⟨λ_=>by unfold nL;omega,λ_=>rfl⟩,λh4=>j3 _ ?_⟩,λh3=>j3 _ ?_⟩⟩
  all_goals (rw [decide_eq_true_eq];unfold nL;omega)
 ·have e:k=s.size:=by omega
  subst e;unfold zr;refine ⟨?_,hl⟩;congr 1;rw [pq];unfold mX xp;have h1:(List.range (bs s).length).all (λi=>decide (nL ((bs s).getD i 0)) || (i !=0 && decide (tM ((bs s).getD i 0))))=true:=by rw [Tc];intro i hi';rw [hlen] at hi';have:=hi i (Tp.1 hi');simp only [Ty,decide_eq_true_eq,Tj,bne_iff_ne,ne_eq];exact this
  rw [h1,T1,SG];simp only [Bool.not_eq_true',decide_eq_false_iff_not,List.isEmpty_eq_false_iff];refine not_congr ⟨λe=>by rw [e];rfl,λe=>yo (e.trans rfl)⟩
section
variable {α:Type} [Mem α] {F:PH}
def J2 (n:Nat) (j:Ω) (f:Sl) (i:Value) (R:VR) (a:Int) (F:PH):Prop:=((a<(f.len:Int)-> ∃g:Addr,f.base=some g/\0<=a/\a<(f.len:Int)/\∃b:Γ,b.size=n/\F.row (Addr.add g (Int.toNat a*n)) b/\∃(h:Nat) (c d:Γ),i=.func (.func h) c d/\aB prog h=true/\aj prog h (c++([.agg b]).toArray++d) F λv F=>∃e:Bool,v=(.bool e)/\((e=true-> R (.int .i64 a) F)/\(e=false-> j (IntKind.i64.wrap (a+(1:Int))) F)))/\(¬(a<(f.len:Int))-> R (.int .i64 (-1:Int)) F))
def Qu (n:Nat) (d:Sl) (e:Value) (R:VR) (F:PH):Prop:=(∃(f:Nat->Ω) (c:Nat),f c (0:Int) F/\∀c a F,f c a F-> J2 n (λb F=>∃g,g<c/\f g b F) d e R a F)
theorem xq {s:Sl} {l:List α} (hs:RL F s l) (hn:0<Mem.n α) (hl:l.length<=1000000000) {k:Nat} {fst cap:Γ} (hk:aB prog k=true) (p:α->Bool)
  (hf:∀x∈l,∀c F1,F.le F1->Mem.rep F1 x c->aj prog k (fst++([Value.agg c]).toArray++cap) F1 λr F'=>r=.bool (p x)/\F1.le F'):
  Qu (Mem.n α) s (.func (.func k) fst cap) (λr F'=>∃i,r=vi i/\(0<=i↔l.any p=true)/\F.le F') F:=by
 have hlen:=hs.len hn;refine bu (J2 (Mem.n α) · s (.func (.func k) fst cap) _) l.length (λk F'=>F.le F'/\(l.take k).any p=false) ⟨aq F,by simp⟩ ?_;rintro i F1 N hi ⟨hle,hany⟩ next;unfold J2;refine ⟨λhlt=> ?_,λhge=> ?_⟩
 ·have hlt:i<l.length:=by omega
  obtain ⟨a,c,ha,hr,hc⟩:=(hs.le hle).get hn (N5 hlt);refine ⟨a,ha,by omega,by omega,c,Mem.len hc,by rw [N4];exact hr,k,fst,cap,rfl,hk,?_⟩;refine (hf _ (TY hlt) c F1 hle hc).mono ?_;rintro _ F2 ⟨rfl,l2⟩;refine ⟨_,rfl,λh=> ?_,λh=> ?_⟩
  ·exact ⟨_,rfl,⟨λ_=>TH.2 ⟨_,TY hlt,h⟩,λ_=>by omega⟩,aa hle l2⟩
  ·rw [aE hlt (by omega)];refine next _ hlt ⟨aa hle l2,?_⟩;rw [SW hlt,List.any_append,hany];simp [h]
 ·have e:i=l.length:=by omega
  subst e;rw [SK] at hany;exact ⟨_,rfl,⟨λh=>by omega,λh=>by rw [hany] at h;cases h⟩,hle⟩
end
theorem ixc {α:Type} [Mem α] {F:PH} {s:Sl} {l:List α} (h:RL F s l) (hn:0<Mem.n α) {i:Int} (h0:0<=i) (h1:i<(s.len:Int)) {K:Addr->Prop}
  (k:∀a c x,l[i.toNat]? =some x->F.row (a.add (i.toNat*Mem.n α)) c->Mem.rep F x c->K a):∃a,s.base=some a/\0<=i/\i<(s.len:Int)/\K a:=by
 have hlen:=h.len hn;have hlt:i.toNat<l.length:=by omega
 obtain ⟨a,c,ha,hr,hc⟩:=h.get hn (N5 hlt);exact ⟨a,ha,h0,h1,k a c _ (N5 hlt) hr hc⟩
def iz (d:Dia) (n:Nat):Prop:=chk d=0/\∀b∈d.1,b.v<n
open Classical in
noncomputable def pv (d:Dia) (n:Nat):Bool:=decide (iz d n)
theorem cH {d:Dia} {n:Nat}:pv d n=true↔iz d n:=by unfold pv;simp
theorem tN {d:Dia} {n:Nat}:pv d n=false↔¬iz d n:=by unfold pv;simp
theorem Me:aB prog 181=true:=by kernel_rfl
theorem gB {F:PH} {v:Γ} {d:Dia} {n:Nat} (hd:DV F v d):aj prog 143 #[.agg v,vi n] F λr F'=>r=.bool (pv d n)/\F.le F':=by
 obtain ⟨s,rfl,hr⟩:=hd;refine Ms ?_;unfold HR;refine fresh λb2 F1 l1 q1 _=> ?_;refine fresh λb3 F2 l2 q2 _=> ?_;replace q1:=l2 _ _ q1;replace hr:=hr.le (aa l1 l2);replace l1:=aa l1 l2;refine ⟨_,rfl,ac q1,?_⟩;refine (p7 (d:=d) ⟨s,rfl,hr⟩).mono ?_;rintro _ F3 ⟨rfl,l3⟩;refine ⟨_,rfl,λh=>⟨?_,aa l1 l3⟩,λh=> ?_⟩
 ·have:pv d n=false:=tN.2 λhg=>h hg.1;rw [this]
 ·have h:chk d=0:=Classical.not_not.1 h;have hle:d.1.length<=4096:=by apply Classical.byContradiction;intro hb;unfold chk at h;rw [if_pos (by omega)] at h;omega
  refine ⟨_,ld (l3 _ _ q1) rfl,?_⟩;refine NW ?_;unfold IZ;have hs:RL F3 s d.1:=(RL.brs.2 hr).le l3
  refine (show aj prog 201 #[s.v,.func (.func 181) #[] #[.pointer (some ⟨b3,0,none⟩)]] F3 (λr F'=>∃i,r=vi i/\(0<=i↔d.1.any (λb=>decide ((n:Int)<=b.v))=true)/\F3.le F')
   from N0 (xq hs (by decide) (by omega) Me (λb=>decide ((n:Int)<=b.v)) λx hx c F4 l4 hc=> ?_)).mono ?_
  ·rw [show c=aW x from hc];refine MB ?_;unfold H0;refine fresh λb F5 l5 q5 _=> ?_;exact ⟨_,ld q5 rfl,_,rfl,_,ld (l5 _ _ (l4 _ _ (l3 _ _ q2))) rfl,rfl,l5⟩
  ·rintro _ F4 ⟨i,rfl,hi,l4⟩;refine ⟨_,rfl,_,rfl,?_,aa l1 (aa l3 l4)⟩;congr 1;rw [SG,cH];simp only [Bool.not_eq_true',decide_eq_false_iff_not];rw [hi,TH];constructor
   ·intro hn;refine ⟨h,λb hb=>Int.not_le.1 λhb'=>hn ⟨b,hb,by simpa using hb'⟩⟩
   ·rintro ⟨_,hb⟩ ⟨b,hb1,hb2⟩;have:=hb b hb1;simp at hb2;omega
def dN (g:Gr):Bool:=decide (64<g.conds.length\/256<g.toks.length\/4096<g.fils.length\/2000<g.nons.length\/2000<g.prods.length\/2000<g.lvs.length) || g.prods.any λp=>decide (16<p.right.length\/16<p.lay.length)
theorem FR:aB prog 140=true:=by kernel_rfl
theorem xr {F:PH} {v:Γ} {g:Gr} (hg:GV F v g):aj prog 88 #[.agg v] F λr F'=>r=.bool (dN g)/\F.le F':=by
 obtain ⟨c,n,t,s,p,l,f,rfl,hs⟩:=hg;refine Qw ?_;unfold Mi;refine fresh λb1 F1 l1 q1 _=> ?_;have e1:=hs.c.len (by decide);have e2:=hs.t.len (by decide);have e3:=hs.s.len (by decide);have e4:=hs.p.len (by decide);have e5:=hs.l.len (by decide);have e6:=hs.f.len (by decide);have bad:(64<g.conds.length\/256<g.toks.length\/4096<g.fils.length\/2000<g.nons.length\/2000<g.prods.length\/2000<g.lvs.length)->(Value.bool true=.bool (dN g)/\F.le F1):=λh=>by refine ⟨?_,l1⟩;unfold dN;rw [decide_eq_true h,Bool.true_or]
 refine ⟨_,ld q1 rfl,λh=>bad (by omega),λh1=>⟨_,ld q1 rfl,λh=>bad (by omega),λh2=>⟨_,ld q1 rfl,λh=>bad (by omega),λh3=>⟨_,ld q1 rfl,_,ld q1 rfl,_,ld q1 rfl,λh=>bad (by omega),λh4=>⟨_,ld q1 rfl,?_⟩⟩⟩⟩⟩;refine NR ?_;unfold IX
 refine (show aj prog 178 #[p.v,.func (.func 140) #[] #[]] F1 (λr F'=>∃i,r=vi i/\(0<=i↔g.prods.any (λp=>decide (16<p.right.length\/16<p.lay.length))=true)/\F1.le F')
  from NU (xq (hs.p.le l1) (by decide) (by omega) FR (λp=>decide (16<p.right.length\/16<p.lay.length)) λx hx c F4 l4 hc=> ?_)).mono ?_
 ·obtain ⟨r,n',l',rfl,h1,h2,h3⟩:=hc;refine Mp ?_;unfold HO;refine fresh λb F5 l5 q5 _=> ?_;have e1:=h1.len (by decide);have e2:=h3.len (by decide);refine ⟨_,ld q5 rfl,_,ld q5 rfl,?_,l5⟩;congr 1;rw [SG];simp only [decide_eq_true_eq];omega
 ·rintro _ F4 ⟨i,rfl,hi,l4⟩;refine ⟨_,rfl,_,rfl,?_,aa l1 l4⟩;congr 1;unfold dN;have hno:¬(64<g.conds.length\/256<g.toks.length\/4096<g.fils.length\/2000<g.nons.length\/2000<g.prods.length\/2000<g.lvs.length):=by omega
  rw [decide_eq_false hno,Ui,SG,decide_eq_true_eq];exact hi
structure Sz (g:Gr):Prop where
 c:∀s∈g.conds,s.size<=1000000000
 t:∀t∈g.toks,t.smp.size<=100000
 l:∀l∈g.lvs,l.ps.length<=1000000000
 f:∀f∈g.fils,f.toks.length<=1000000000
def bz (l:List ByteArray):Prop:=l.Nodup/\emp ∉ l
theorem fo {l:List ByteArray} {s:ByteArray}:bz (l++[s])↔bz l/\s≠emp/\s ∉ l:=by
 unfold bz;rw [S7];simp only [SD,SA,not_or];constructor
 ·rintro ⟨⟨h1,_,h2⟩,h3,h4⟩;exact ⟨⟨h1,h3⟩,λe=>h4 e.symm,λhm=>h2 s hm s rfl rfl⟩
 ·rintro ⟨⟨h1,h2⟩,h3,h4⟩;exact ⟨⟨h1,by simp,λa ha b hb e=>h4 (by rw [<- hb,<- e];exact ha)⟩,h2,λe=>h3 e.symm⟩
theorem kC {l:List ByteArray} (h:bz l) (k:Nat):bz (l.take k):=⟨h.1.sublist (List.take_sublist k l),λhm=>h.2 (T3 hm)⟩
theorem bB {α:Type} {l:List α} {k:Nat} {x:α} (h:l[k]? =some x):l.take (k+1)=l.take k++[x]:=by obtain ⟨hk,rfl⟩:=N6.1 h;exact SW hk
theorem nY {G F:PH} {As:List (Ψ)} {b m:Nat} {l:List ByteArray} (h:St G F (bD m l.reverse::As)) (hc:G.cell ⟨b,0,none⟩=some (.map (some m))) (s:ByteArray) {R:VR}
  (k:∀G' F',G.le G'->St G' F' (bD m (l++[s]).reverse::As)->R (.bool (decide (s≠emp/\s ∉ l))) F'):
  ∃(k28:Nat) (fst28 cap28:Γ),vG b=.func (.func k28) fst28 cap28/\aB prog k28=true/\aj prog k28 (fst28++([(.string s)]).toArray++cap28) F R:=by
 refine ⟨_,_,_,rfl,Md,?_⟩;have sp:=St.callL (Bs:=[bD m l.reverse]) (Cs:=As) (Bs':=λ_ _=>[bD m (s::l.reverse)]) (P:=λr _=>r=.bool (decide (s≠emp/\s ∉ l.reverse))) h λF1 h1=>(xo h1 hc s).mono λr F' ⟨G',hr,hl,hst⟩=>⟨G',hr,hl,hst⟩;refine sp.mono ?_;rintro r F' ⟨G',rfl,hl,hst⟩;have:=k G' F' hl (by rw [List.reverse_append];exact hst);rw [show decide (s≠emp/\s ∉ l.reverse)=decide (s≠emp/\s ∉ l) by simp];exact this
def Mf:ByteArray:=ByteArray.mk #[116,114,117,101]
def J3:ByteArray:=ByteArray.mk #[102,97,108,115,101]
def px (s:ByteArray):Prop:=mX s=true/\s≠Mf/\s≠J3
def mY (g:Gr):Prop:=(∀s∈g.conds,px s)/\bz g.conds/\iz g.fam g.conds.length/\g.fam.2≠0
open Classical in
theorem lX {F:PH} {v:Γ} {g:Gr} (hg:GV F v g) (hz:Sz g) (hl:g.conds.length<=64):aj prog 89 #[.agg v] F λr F'=>r=vi (if mY g then 0 else 54)/\F.le F':=by
 obtain ⟨c,n,t,s,p,l,f,rfl,hs⟩:=hg;have ec:=hs.c.len (by decide);refine Qx ?_;unfold Mj;refine fresh λb1 F1 l1 q1 _=> ?_;replace hs:=hs.le l1;refine (gP F1).mono ?_;rintro _ F2 ⟨G2,bn,m,rfl,l2,hcn,h⟩;refine ⟨_,rfl,_,ld (h.le _ _ (l2 _ _ q1)) rfl,?_⟩;have bad:∀{F'},F1.le F'->¬mY g->(vi 54=vi (if mY g then 0 else 54)/\F.le F'):=λ{F'} l hn=>⟨by rw [if_neg hn],aa l1 l⟩;refine bu (xx · b1 (vG bn) c _) g.conds.length (λk F'=>∃G,G2.le G/\St G F' [bD m (g.conds.take k).reverse]/\(∀s∈g.conds.take k,px s)/\bz (g.conds.take k))
  ⟨G2,aq _,h,by simp,by simp [bz]⟩ ?_
 rintro k F3 N hk ⟨G3,l3,h,hi,hi2⟩ next;have l13:=aa l2 l3;unfold xx;refine ⟨λhlt=> ?_,λhge=> ?_⟩
 ·have hlt:k<g.conds.length:=by omega
  refine ixc ((hs.c.le l13).le h.le) (by decide) (by omega) (by omega) λa cc x hx hr hc=> ?_;rw [N4] at hx hr;rw [show cc= #[.string x] from hc] at hr;have hxm:x∈g.conds:=SE hx;refine ⟨_,aY hr rfl,?_⟩;refine h.runv (nN x (hz.c x hxm)) λG4 F4 l4 h=>⟨_,rfl,λhb=> ?_,λhb=>⟨λhb2=> ?_,λhb2=>⟨λhb3=> ?_,λhb3=> ?_⟩⟩⟩
  ·exact bad (aa l13 (aa l4 h.le)) λhn=>by rw [(hn.1 x hxm).1] at hb;cases hb
  ·exact bad (aa l13 (aa l4 h.le)) λhn=>(hn.1 x hxm).2.1 (by rw [pq] at hb2;exact of_decide_eq_true hb2)
  ·exact bad (aa l13 (aa l4 h.le)) λhn=>(hn.1 x hxm).2.2 (by rw [pq] at hb3;exact of_decide_eq_true hb3)
  ·refine nY h (aH (aa l3 l4) hcn) x λG5 F5 l5 h=> ?_;have l15:=aa l13 (aa l4 l5);refine ⟨_,rfl,λhb4=> ?_,λhb4=> ?_⟩
   ·refine bad (aa l15 h.le) λhn=> ?_;have:=kC hn.2.1 (k+1);rw [bB hx,fo] at this;rw [decide_eq_true this.2] at hb4;cases hb4
   ·rw [aE hlt (by omega)];have hb4:x≠emp/\x ∉ g.conds.take k:=by simpa using hb4
    rw [<- bB hx] at h;refine next _ hlt ⟨G5,aa l3 (aa l4 l5),h,λs hs=> ?_,?_⟩
    ·rw [bB hx] at hs;rcases SD.1 hs with hs|hs
     ·exact hi s hs
     ·rw [SA.1 hs];rw [pq] at hb2 hb3;exact ⟨by simpa using hb,of_decide_eq_false hb2,of_decide_eq_false hb3⟩
    ·rw [bB hx,fo];exact ⟨hi2,hb4⟩
 ·have e:k=g.conds.length:=by omega
  subst e;rw [SK] at hi hi2;unfold CL;refine ⟨#[n.v,vi g.fam.2],rfl,mb (h.le _ _ (l13 _ _ q1)) rfl,_,ld (h.le _ _ (l13 _ _ q1)) rfl,?_⟩;dsimp only;rw [ec];refine h.runv (gB (d:=g.fam) (DV.mk (hs.n.le l13))) λG4 F4 l4 h=>⟨_,rfl,λhb=> ?_,λhb=> ?_⟩
  ·refine bad (aa l13 (aa l4 h.le)) λhn=> ?_;have:pv g.fam g.conds.length=true:=cH.2 hn.2.2.1;rw [this] at hb;cases hb
  ·refine ⟨_,ld (h.le _ _ (l4 _ _ (l13 _ _ q1))) rfl,λh0=> ?_,λh0=> ?_⟩
   ·exact bad (aa l13 (aa l4 h.le)) λhn=>hn.2.2.2 h0
   ·refine ⟨?_,aa l1 (aa l13 (aa l4 h.le))⟩;rw [if_pos ⟨hi,hi2,cH.1 (by simpa using hb),h0⟩]
def iP (g:Gr):Prop:=bz g.nons/\0<=g.start/\g.start<g.nons.length
open Classical in
theorem py {F:PH} {v:Γ} {g:Gr} (hg:GV F v g) (hl:g.nons.length<=2000):aj prog 91 #[.agg v] F λr F'=>r=vi (if iP g then 0 else 50)/\F.le F':=by
 obtain ⟨c,n,t,s,p,l,f,rfl,hs⟩:=hg;have es:=hs.s.len (by decide);refine Qz ?_;unfold Ml;refine fresh λb1 F1 l1 q1 _=> ?_;replace hs:=hs.le l1;refine (gP F1).mono ?_;rintro _ F2 ⟨G2,bn,m,rfl,l2,hcn,h⟩;refine ⟨_,rfl,_,ld (h.le _ _ (l2 _ _ q1)) rfl,?_⟩;have bad:∀{F'},F1.le F'->¬iP g->(vi 50=vi (if iP g then 0 else 50)/\F.le F'):=λ{F'} l hn=>⟨by rw [if_neg hn],aa l1 l⟩;refine bu (xz · b1 (vG bn) s _) g.nons.length (λk F'=>∃G,G2.le G/\St G F' [bD m (g.nons.take k).reverse]/\bz (g.nons.take k))
  ⟨G2,aq _,h,by simp [bz]⟩ ?_
 rintro k F3 N hk ⟨G3,l3,h,hi2⟩ next;have l13:=aa l2 l3;unfold xz;refine ⟨λhlt=> ?_,λhge=> ?_⟩
 ·have hlt:k<g.nons.length:=by omega
  refine ixc ((hs.s.le l13).le h.le) (by decide) (by omega) (by omega) λa cc x hx hr hc=> ?_;rw [N4] at hx hr;rw [show cc= #[.string x] from hc] at hr;refine ⟨_,aY hr rfl,?_⟩;refine nY h (aH l3 hcn) x λG5 F5 l5 h=> ?_;have l15:=aa l13 l5;refine ⟨_,rfl,λhb4=> ?_,λhb4=> ?_⟩
  ·refine bad (aa l15 h.le) λhn=> ?_;have:=kC hn.1 (k+1);rw [bB hx,fo] at this;rw [decide_eq_true this.2] at hb4;cases hb4
  ·rw [aE hlt (by omega)];have hb4:x≠emp/\x ∉ g.nons.take k:=by simpa using hb4
   rw [<- bB hx] at h;refine next _ hlt ⟨G5,aa l3 l5,h,?_⟩;rw [bB hx,fo];exact ⟨hi2,hb4⟩
 ·have e:k=g.nons.length:=by omega
  subst e;rw [SK] at hi2;unfold CN;have q:=h.le _ _ (l13 _ _ q1);refine ⟨_,ld q rfl,λh0=>bad (aa l13 h.le) λhn=>by have:=hn.2.1;omega,λh0=>⟨_,ld q rfl,_,ld q rfl,λh1=>bad (aa l13 h.le) λhn=>by have:=hn.2.2;omega,λh1=>⟨?_,aa l1 (aa l13 h.le)⟩⟩⟩;rw [if_pos ⟨hi2,by omega,by omega⟩]
inductive Scl:TypeId->Value->Value->Bool->Prop
 |int {t:TypeId} {k:IntKind} {a b:Int}:prog.underlying t=some (.int k)->Scl t (.int k a) (.int k b) (decide (a=b))
 |bool {t:TypeId} {a b:Bool}:prog.underlying t=some .bool->Scl t (.bool a) (.bool b) (decide (a=b))
theorem Scl.eq {t:TypeId} {v w:Value} {r:Bool} (h:Scl t v w r) (d:Nat) (F:PH):rdo prog (Op.equalIn (d+1) t v w) F r:=by
 cases h with
 | @int k a b ht=>exact Ae t k ht d a b
 | @bool a b ht=>simp only [Op.equalIn,ai];refine ⟨_,(av ht _).2 rfl,?_⟩;show (a==b)=decide (a=b);cases a<;>cases b<;>rfl
theorem Scl.part {t:TypeId} {v w:Value} {r:Bool} (h:Scl t v w r) {cs:Γ} {off:Nat} {x:Value} (hx:cs[off]? =some x) (F:PH):rdo prog (part t cs off) F x:=by
 have ha:∀d,prog.underlying t=some d->((∃k,d=.int k)\/d=.bool)->rdo prog (Go.part t cs off) F x:=λd hd hk=>by unfold Go.part;simp only [ai];refine ⟨false,(dq hd _).2 (by rcases hk with ⟨k,rfl⟩|rfl<;>rfl),?_⟩;simp only [S9,if_false,hx];rfl
 cases h with
 | @int k a b ht=>exact ha _ ht (.inl ⟨k,rfl⟩)
 | @bool a b ht=>exact ha _ ht (.inr rfl)
theorem vH {t:TypeId} {fs:Array Field} (ht:prog.underlying t=some (.struct fs)) (hsi:prog.stoodInHeld t=false) {cs ds:Γ} (e:Field->Bool)
  (hall:∀f∈fs.toList,f.name≠ "_"/\∃v w,cs[f.offset]? =some v/\ds[f.offset]? =some w/\Scl f.type v w (e f)) (F:PH):
  rdo prog (Op.equal t (.agg cs) (.agg ds)) F (fs.toList.all e):=by
 unfold Op.equal Op.maxDepth;show rdo prog (Op.equalIn (9998+1+1) t _ _) _ _;unfold Op.equalIn;simp only [ai];refine ⟨_,(av ht _).2 rfl,?_⟩;dsimp only;rw [ai];refine ⟨prog,rfl,?_⟩;rw [hsi];simp only [S9,if_false];rw [<- Array.forIn_toList,ai];refine ⟨_,yk _ e _ λf hf=> ?_,?_⟩
 ·obtain ⟨h1,v,w,h2,h3,h4⟩:=hall f hf;rw [if_pos h1];simp only [ai];refine ⟨_,h4.part h2 F,_,h4.part h3 F,_,h4.eq 9998 F,?_⟩;cases e f<;>rfl
 ·cases fs.toList.all e<;>rfl
theorem Mg (x y:Sy) (F:PH):rdo prog (Op.equal 63 (.agg x.arr) (.agg y.arr)) F (decide (x=y)):=by
 have h:=vH (t:=63) underlying63 (by kernel_rfl) (cs:=x.arr) (ds:=y.arr) (λf=>if f.offset=0 then decide (x.t=y.t) else decide (x.i=y.i)) (λf hf=>by
  simp only [Sw,TL,or_false] at hf;rcases hf with rfl|rfl
  ·exact ⟨by decide,_,_,rfl,rfl,.bool underlying4⟩
  ·exact ⟨by decide,_,_,rfl,rfl,.int underlying3⟩) F
 refine cast ?_ h;congr 1;cases x;cases y;rw [SG];simp [Sy.mk.injEq]
abbrev Sco.arr (s:Sco):Γ:= #[.bool s.o,vi s.d,vi s.k,vi s.u,vi s.a]
theorem HN (x y:Sco) (F:PH):rdo prog (Op.equal 53 (.agg x.arr) (.agg y.arr)) F (decide (x=y)):=by
 have h:=vH (t:=53) underlying53 (by kernel_rfl) (cs:=x.arr) (ds:=y.arr)
  (λf=>if f.offset=0 then decide (x.o=y.o) else if f.offset=1 then decide (x.d=y.d) else if f.offset=2 then decide (x.k=y.k) else if f.offset=3 then decide (x.u=y.u) else decide (x.a=y.a)) (λf hf=>by
  simp only [Sw,TL,or_false] at hf;rcases hf with rfl|rfl|rfl|rfl|rfl
  ·exact ⟨by decide,_,_,rfl,rfl,.bool underlying4⟩
  all_goals exact ⟨by decide,_,_,rfl,rfl,.int underlying3⟩) F
 refine cast ?_ h;congr 1;cases x;cases y;rw [SG];simp [Sco.mk.injEq]
def lY (g:Gr) (s:Sy):Prop:=0<=s.i/\(s.t=false->s.i<g.nons.length)/\(s.t=true->∃t,g.toks[s.i.toNat]? =some t/\t.cls=0)
instance (g:Gr) (s:Sy):Decidable (lY g s):=by
 have:Decidable (∃t,g.toks[s.i.toNat]? =some t/\t.cls=0):=by
  cases h:g.toks[s.i.toNat]? with
  |none=>exact isFalse λ⟨t,h1,_⟩=>by cases h1
  |some t=>exact decidable_of_iff (t.cls=0) ⟨λe=>⟨t,rfl,e⟩,λ⟨u,h1,h2⟩=>by cases h1;exact h2⟩
 unfold lY;exact inferInstance
theorem vI {F:PH} {v:Γ} {g:Gr} (hg:GV F v g) (x:Sy):aj prog 147 #[.agg v,.agg x.arr] F λr F'=>r=.bool (decide (lY g x))/\F.le F':=by
 obtain ⟨c,n,t,s,p,l,f,rfl,hs⟩:=hg;refine Mu ?_;unfold HT;refine fresh λb2 F1 l1 q1 _=> ?_;refine fresh λb3 F2 l2 q2 _=> ?_;replace q1:=l2 _ _ q1;replace l1:=aa l1 l2;have es:=hs.s.len (by decide);have et:=hs.t.len (by decide);obtain ⟨xt,xi⟩:=x;have no:¬lY g ⟨xt,xi⟩->(Value.bool false=.bool (decide (lY g ⟨xt,xi⟩))/\F.le F2):=λh=>⟨by rw [decide_eq_false h],l1⟩;refine ⟨_,ld q2 rfl,λh=>⟨_,ld q2 rfl,λh0=>⟨_,ld q2 rfl,_,ld q1 rfl,?_,l1⟩,λh0=>no λhp=>h0 hp.1⟩,λh=>⟨_,ld q2 rfl,λh0=>⟨_,ld q2 rfl,_,ld q1 rfl,λh1=>⟨_,ld q1 rfl,_,ld q2 rfl,?_⟩,λh1=>no λhp=> ?_⟩,λh0=>no λhp=>h0 hp.1⟩⟩
 ·have h:xt=false:=by simpa using h
  subst h;congr 1;rw [SG,decide_eq_true_eq,decide_eq_true_eq];exact ⟨λh1=>⟨h0,λ_=>by dsimp only at h1 ⊢;omega,λh=>(by cases h)⟩,λhp=>by have:=hp.2.1 rfl;dsimp only at this ⊢;omega⟩
 ·have h:xt=true:=by simpa using h
  subst h;refine ixc (hs.t.le l1) (by decide) h0 h1 λa cc y hy hr hc=> ?_;obtain ⟨pp,nn,rfl,_,_⟩:=hc;refine ⟨_,bN hr rfl,?_,l1⟩;congr 1;rw [SG,decide_eq_true_eq,decide_eq_true_eq]
  exact ⟨λh1=>⟨h0,λh=>(by cases h),λ_=>⟨y,hy,h1⟩⟩,λhp=>by
   obtain ⟨z,hz,h2⟩:=hp.2.2 rfl;rw [hy] at hz;cases hz
   exact h2⟩
 ·have h:xt=true:=by simpa using h
  subst h;obtain ⟨z,hz,_⟩:=hp.2.2 rfl;have:=(N6.1 hz).1;dsimp only at this h1;omega
def d6 (r:List Sy) (k v lo hi:Int):Prop:=(k=0/\v=0)\/(0<k/\k<=r.length/\(∃s,r[(k - 1).toNat]? =some s/\s.t=true)/\lo<=v/\v<=hi)
def xu (r:List Sy) (x:Cn):Prop:=1<=x.k/\x.k<=4/\0<=x.a/\x.a<r.length/\0<=x.b/\x.b<r.length/\(x.k=1->x.b=0)
def pz:Sco:=⟨false,0,0,0,0⟩
def xv (p:Pr):Prop:=p.right.length=3/\p.rank=0/\p.lay=[]/\p.sco=pz/\(∃s,p.right[0]? =some s/\s.t=true)/\p.right[1]? =some ⟨false,p.left⟩/\(∃s,p.right[2]? =some s/\s.t=true)
def lZ (p:Pr):Prop:=(∀x∈p.lay,xu p.right x)/\d6 p.right p.sco.d p.sco.k 1 7/\d6 p.right p.sco.u p.sco.a 0 255/\(p.brk=true->xv p)
open Classical in
theorem pC {F:PH} {b:Nat} {x:Pr} {r n l:Sl} (hr:RL F r x.right) (q:F b=some (.cells (x.arr r n l) 55)) (k v lo hi:Int) (hk:x.right.length<=16):
  aj prog 189 #[vi k,vi v,vi lo,vi hi,.pointer (some ⟨b,0,none⟩)] F λres F'=>res=.bool (decide (d6 x.right k v lo hi))/\F.le F':=by
 refine MD ?_;unfold Ib;have er:=hr.len (by decide);have no:¬d6 x.right k v lo hi->(Value.bool false=.bool (decide (d6 x.right k v lo hi))/\F.le F):=λh=>⟨by rw [decide_eq_false h],aq F⟩;have hcell:F.cell (Addr.add (Addr.mk b 0 none) 2)=some r.v:=by rw [aC];exact ld q rfl
 refine ⟨λh0=>⟨?_,aq F⟩,λh0=>⟨λh1=>⟨_,rfl,_,hcell,λh2=>⟨_,hcell,?_⟩,λh2=>no ?_⟩,λh1=>no ?_⟩⟩
 ·congr 1;rw [SG,decide_eq_true_eq,decide_eq_true_eq];exact ⟨λh=> .inl ⟨h0,h⟩,λh=>h.elim (λh=>h.2) λh=>by omega⟩
 ·have ew:IntKind.i64.wrap (k - 1)=k - 1:=aO (by omega) (by omega);rw [ew];refine ixc hr (by decide) (by omega) (by omega) λa c s hs hrow hc=> ?_;rw [show c=s.arr from hc] at hrow;refine ⟨_,aY hrow rfl,λht=>⟨λh3=>⟨?_,aq F⟩,λh3=>no ?_⟩,λht=>no ?_⟩
  ·congr 1;rw [SG,decide_eq_true_eq,decide_eq_true_eq];exact ⟨λh=> .inr ⟨h1,by omega,⟨s,hs,ht⟩,h3,h⟩,λh=>h.elim (λh=>by omega) λh=>h.2.2.2.2⟩
  ·rintro (h|h)
   ·omega
   ·exact h3 h.2.2.2.1
  ·rintro (h|h)
   ·omega
   ·obtain ⟨s',hs',ht'⟩:=h.2.2.1;rw [hs] at hs';cases hs';rw [ht] at ht';cases ht'
 ·rintro (h|h)
  ·omega
  ·omega
 ·rintro (h|h)
  ·omega
  ·omega
theorem pD {F:PH} {b:Nat} {x:Pr} {r n l:Sl} (hr:RL F r x.right) (q:F b=some (.cells (x.arr r n l) 55)) (i:Int):
  aj prog 188 #[vi i,.pointer (some ⟨b,0,none⟩)] F λres F'=>res=.bool (decide (0<=i/\i<x.right.length))/\F.le F':=by
 refine MC ?_;unfold Ia;have er:=hr.len (by decide);have hcell:F.cell (Addr.add (Addr.mk b 0 none) 2)=some r.v:=by rw [aC];exact ld q rfl
 refine ⟨λh=>⟨_,rfl,_,hcell,?_,aq F⟩,λh=>⟨?_,aq F⟩⟩
 ·congr 1;rw [SG,decide_eq_true_eq,decide_eq_true_eq];omega
 ·rw [decide_eq_false (λhn=>h hn.1)]
open Classical in
theorem tO {F:PH} {v:Γ} {x:Pr} (hp:Mem.rep F x v) (h1:x.right.length<=16) (h2:x.lay.length<=16):aj prog 149 #[.agg v] F λr F'=>r=.bool (decide (lZ x))/\F.le F':=by
 obtain ⟨r,n,l,rfl,hr,hn,hl⟩:=hp;have er:=hr.len (by decide);have el:=hl.len (by decide);refine Mv ?_;unfold HU;refine fresh λb1 F1 l1 q1 _=>⟨_,ld q1 rfl,?_⟩;replace hr:=hr.le l1;replace hl:=hl.le l1;have no:∀{F':PH},F1.le F'->¬lZ x->(Value.bool false=.bool (decide (lZ x))/\F.le F'):=λ{F'} l h=>⟨by rw [decide_eq_false h],aa l1 l⟩;refine bu (tS · b1 l _) x.lay.length (λk F'=>F1.le F'/\∀y∈x.lay.take k,xu x.right y) ⟨aq _,by simp⟩ ?_;rintro k F2 N hk ⟨l2,hi⟩ next;unfold tS;refine ⟨λhlt=> ?_,λhge=> ?_⟩
 ·have hlt:k<x.lay.length:=by omega
  refine ixc (hl.le l2) (by decide) (by omega) (by omega) λa c y hy hrow hc=> ?_;rw [show c=y.arr from hc] at hrow;rw [N4] at hy hrow;have hym:y∈x.lay:=SE hy;refine ⟨_,rfl,hrow,?_⟩;refine (St.start F2).new λb4 F3 h=> ?_;refine h.put0 (w':=y.arr) rfl rfl (by simp [ak]) λF4 h=> ?_;obtain ⟨_,_,q4,h⟩:∃G',F2.le G'/\G' b4=some (.cells y.arr 153)/\G'.le F4:=h.pinb (K:=λF4=>∃G',F2.le G'/\G' b4=some (.cells y.arr 153)/\G'.le F4) λG' l q h=>⟨G',l,q,h.le⟩;have l4:F2.le F4:=aa ‹F2.le _› h;replace q4:=h _ _ q4;replace l4:=aa l2 l4;have good:xu x.right y->∀F5,F1.le F5->oa N b1 l (k:Int) (λr F'=>r=.bool (decide (lZ x))/\F.le F') F5:=λhg F5 l5=>by
   unfold oa;rw [aE hlt (by omega)];refine next _ hlt ⟨l5,λz hz=> ?_⟩;rw [bB hy] at hz;rcases SD.1 hz with hz|hz
   ·exact hi z hz
   ·rw [SA.1 hz];exact hg
  have bad:∀{F':PH},F1.le F'->¬xu x.right y->(Value.bool false=.bool (decide (lZ x))/\F.le F'):=λ{F'} l h=>no l λhd=>h (hd.1 y hym);refine ⟨_,ld q4 rfl,λh=>bad l4 λhp=>by have:=hp.1;omega,λk1=>⟨_,ld q4 rfl,λh=>bad l4 λhp=>by have:=hp.2.1;omega,λk2=>⟨_,ld q4 rfl,?_⟩⟩⟩;refine (pD (hr.le l4) (l4 _ _ q1) y.a).mono ?_;rintro _ F5 ⟨rfl,l5⟩;refine ⟨_,rfl,λh=>bad (aa l4 l5) λhp=> ?_,λk3=>⟨_,ld (l5 _ _ q4) rfl,?_⟩⟩
  ·rw [decide_eq_true ⟨hp.2.2.1,hp.2.2.2.1⟩] at h;cases h
  refine (pD (hr.le (aa l4 l5)) (l5 _ _ (l4 _ _ q1)) y.b).mono ?_;rintro _ F6 ⟨rfl,l6⟩;have l46:=aa l4 (aa l5 l6);have q6:=l6 _ _ (l5 _ _ q4);refine ⟨_,rfl,λh=>bad l46 λhp=> ?_,λk4=>⟨_,ld q6 rfl,λk5=>⟨_,ld q6 rfl,λk6=>bad l46 λhp=>k6 (hp.2.2.2.2.2.2 k5),λk6=>good ?_ _ l46⟩,λk5=>good ?_ _ l46⟩⟩
  ·rw [decide_eq_true ⟨hp.2.2.2.2.1,hp.2.2.2.2.2.1⟩] at h;cases h
  ·simp at k3 k4;exact ⟨by omega,by omega,k3.1,k3.2,k4.1,k4.2,λ_=>by omega⟩
  ·simp at k3 k4;exact ⟨by omega,by omega,k3.1,k3.2,k4.1,k4.2,λh=>absurd h k5⟩
 ·have e:k=x.lay.length:=by omega
  subst e;rw [SK] at hi;unfold zt;refine ⟨x.sco.arr,rfl,mb (l2 _ _ q1) rfl,?_⟩;refine (St.start F2).new λb7 F3 h=> ?_;refine h.put0 (w':=x.sco.arr) rfl rfl (by simp [ak]) λF4 h=> ?_;obtain ⟨_,_,q4,h⟩:∃G',F2.le G'/\G' b7=some (.cells x.sco.arr 53)/\G'.le F4:=h.pinb (K:=λF4=>∃G',F2.le G'/\G' b7=some (.cells x.sco.arr 53)/\G'.le F4) λG' l q h=>⟨G',l,q,h.le⟩;have l4:F2.le F4:=aa ‹F2.le _› h;replace q4:=h _ _ q4;replace l4:=aa l2 l4;refine ⟨_,ld q4 rfl,_,ld q4 rfl,?_⟩;refine (pC (hr.le l4) (l4 _ _ q1) x.sco.d x.sco.k 1 7 h1).mono ?_;rintro _ F5 ⟨rfl,l5⟩;refine ⟨_,rfl,λh=>no (aa l4 l5) λhp=> ?_,λk3=>⟨_,ld (l5 _ _ q4) rfl,_,ld (l5 _ _ q4) rfl,?_⟩⟩
  ·rw [decide_eq_true hp.2.1] at h;cases h
  refine (pC (hr.le (aa l4 l5)) (l5 _ _ (l4 _ _ q1)) x.sco.u x.sco.a 0 255 h1).mono ?_;rintro _ F6 ⟨rfl,l6⟩;have l46:=aa l4 (aa l5 l6);have q6:=l6 _ _ (l5 _ _ q4);have p1:=l46 _ _ q1;refine ⟨_,rfl,λh=>no l46 λhp=> ?_,λk4=> ?_⟩
  ·rw [decide_eq_true hp.2.2.1] at h;cases h
  have k3:d6 x.right x.sco.d x.sco.k 1 7:=by simpa using k3
  have k4:d6 x.right x.sco.u x.sco.a 0 255:=by simpa using k4
  refine ⟨_,ld p1 rfl,λhb=>⟨?_,aa l1 l46⟩,λhb=> ?_⟩
  ·rw [decide_eq_true ⟨hi,k3,k4,λh=>by rw [h] at hb;cases hb⟩]
  have hb:x.brk=true:=by simpa using hb
  have nob:¬xv x->(Value.bool false=.bool (decide (lZ x))/\F.le F6):=λh=>no l46 λhp=>h (hp.2.2.2 hb);refine ⟨_,ld p1 rfl,λh=>nob λhp=>h (by have:=hp.1;omega),λk5=>⟨_,ld p1 rfl,λh=>nob λhp=>h hp.2.1,λk6=>⟨_,ld p1 rfl,λh=>nob λhp=> ?_,λk7=>⟨_,rfl,ac q6,_,λF=>HN x.sco pz F,λh=>nob λhp=> ?_,λk8=> ?_⟩⟩⟩⟩
  ·have:=hp.2.2.1;rw [this] at el;simp at el;omega
  ·rw [decide_eq_true hp.2.2.2.1] at h;cases h
  have k8:x.sco=pz:=by simpa using k8
  have hr6:=hr.le l46;refine ⟨_,ld p1 rfl,ixc hr6 (by decide) (by omega) (by omega) λa c y hy hrow hc=> ?_⟩;rw [show c=y.arr from hc] at hrow;refine ⟨_,aY hrow rfl,λk9=>⟨_,ld p1 rfl,ixc hr6 (by decide) (by omega) (by omega) λa c z hz hrow hc=> ?_⟩,λk9=>nob λhp=> ?_⟩
  ·rw [show c=z.arr from hc] at hrow;refine ⟨_,rfl,hrow,_,ld p1 rfl,_,λF=>Mg z ⟨false,x.left⟩ F,λk10=>⟨_,ld p1 rfl,ixc hr6 (by decide) (by omega) (by omega) λa c w hw hrow hc=> ?_⟩,λk10=>nob λhp=> ?_⟩
   ·rw [show c=w.arr from hc] at hrow;refine ⟨_,aY hrow rfl,?_,aa l1 l46⟩;have k10:z=⟨false,x.left⟩:=by simpa using k10
    subst k10;congr 1;cases hwt:w.t with
    |true=>refine (decide_eq_true ⟨hi,k3,k4,λ_=>⟨by omega,Classical.not_not.1 k6,?_,k8,⟨y,hy,k9⟩,hz,⟨w,hw,hwt⟩⟩⟩).symm;exact SU (by omega)
    |false=>refine (decide_eq_false λhp=> ?_).symm;obtain ⟨s,hs,hst⟩:=(hp.2.2.2 hb).2.2.2.2.2.2;rw [show x.right[2]? =some w from hw] at hs;cases hs;rw [hwt] at hst;cases hst
   ·have e:some z=_:=hz.symm.trans hp.2.2.2.2.2.1;cases e;simp at k10
  ·obtain ⟨s,hs,hst⟩:=hp.2.2.2.2.1;have e:some y=_:=hy.symm.trans hs;cases e;rw [k9] at hst;cases hst
end Go.Proofs.YtcemhghkipgdiaaGreatDoor

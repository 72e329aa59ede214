/-
  Equality of structs of scalars; symbols; details of productions.
-/
import Derived.Test.YtcemhghkipgdiaaGreatDoorHc
import Derived.Test.YtcemhghkipgdiaaGreatDoorGgrammar
import Derived.Test.YtcemhghkipgdiaaGreatDoorGbits
namespace Go.Proofs.YtcemhghkipgdiaaGreatDoor
open Go Go.Proofs.Tryz
set_option maxRecDepth 10000
theorem qv (a b:ByteArray):(a.toList==b.toList)=decide (a=b):=by rw [Fd,U3,decide_eq_true_eq,decide_eq_true_eq];exact ⟨y9,λh=>by rw [h]⟩
theorem w7 (a b:ByteArray):(a==b)=decide (a=b):=by show (a.data==b.data)=_;rw [U3,beq_iff_eq,decide_eq_true_eq];exact ⟨λh=>by cases a;cases b;cases h;rfl,λh=>by rw [h]⟩
instance:LawfulBEq ByteArray where
 eq_of_beq {a b} h:=by rw [w7] at h;exact of_decide_eq_true h
 rfl {a}:=by rw [w7];exact decide_eq_true rfl
abbrev emp:ByteArray:=ByteArray.mk #[]
theorem SX:ou prog 9 Value.string:=by
 refine ⟨λF a b=> ?_,λF e a=> ?_,λa=> ?_,_,underlying9,.inl λa b=> ?_⟩
 ·unfold Op.equal Op.maxDepth;show rdo prog (Op.equalIn (9999+1) 9 (.string a) (.string b)) F _;unfold Op.equalIn;simp only [aj];refine ⟨_,(az underlying9 _).2 rfl,?_⟩;exact w7 a b
 ·show rdo prog (Instr.checkKey e (9999+1) 9 (.string a)) F ();unfold Instr.checkKey;simp only [aj];exact ⟨_,(az underlying9 _).2 rfl,rfl⟩
 ·show (a==a)=true;rw [w7];simp
 ·show some (a==b)=_;rw [w7]
theorem NO:bP prog 4=some (.bool false):=by kernel_rfl
theorem LX:fY prog 222 Value.string (.bool false):=⟨_,_,underlying222,NO,SX⟩
def gR (l:List ByteArray) (s:ByteArray):Option Value:=if s=emp\/s∈l then some (.bool true) else none
def bK (m:Nat) (l:List ByteArray):Ψ:=λH=>∃o,H m=some o/\eH Value.string (gR l) o
theorem St.mapAt {G F:PH} {As:List (Ψ)} {m:Nat} {l:List ByteArray} (h:St G F (bK m l::As)):∃o,F m=some o/\eH Value.string (gR l) o:=by obtain ⟨H,⟨o,h1,h2⟩,_,h3⟩:=h.get (i:=0) rfl;exact ⟨o,h3 _ _ h1,h2⟩
theorem St.mapSet {G F:PH} {As:List (Ψ)} {m:Nat} {l l':List ByteArray} {o':Obj} (h:St G F (bK m l::As)) (ho:eH Value.string (gR l') o'):St G (F.set m o') (bK m l'::As):=by
 obtain ⟨H,⟨o,a1,_⟩,a2,a3,a4⟩:=h.set (i:=0) (A':=bK m l') rfl;refine a4 (H.set m o') _ ⟨o',al _ _ _,ho⟩ (λx hx=> ?_) (λx p hx=> ?_) (λx p hx hn=> ?_)
 ·by_cases e:x=m
  ·rw [e,a1];exact .inl (by simp)
  ·rw [av _ _ e] at hx;exact .inl hx
 ·by_cases e:x=m
  ·rw [e,al] at hx ⊢;exact hx
  ·rw [av _ _ e] at hx ⊢;exact a3 _ _ hx
 ·have e:x≠m:=λe=>by rw [e,a1] at hn;cases hn
  rw [av _ _ e];exact hx
abbrev w8 (b:Nat):Value:=.func (.func 179) #[] #[.pointer (some ⟨b,0,none⟩)]
theorem ii (F:PH):ai prog 141 #[] F λr F'=>∃G' b m,r=w8 b/\F.le G'/\G'.cell ⟨b,0,none⟩=some (.map (some m))/\St G' F' [bK m []]:=by
 refine QN ?_;unfold KL;intro m hm;refine atI ?_;refine aX LX (al _ _ _) (eH.empty _) emp (.bool true) λo' ho'=> ?_;rw [bh];have hs:St F (F.set m o') [bK m []]:=by
  have ho2:eH Value.string (gR []) o':=by obtain ⟨es,c,L,h1,h2,h3⟩:=ho';refine ⟨es,c,L,h1,h2,λk=> ?_⟩;rw [<- h3 k];unfold gR;by_cases e:k=emp<;>simp [e]
  refine (St.start F).push (H:=PH.set (λ_=>none) m o') ⟨o',al _ _ _,ho2⟩ (λx hx=> ?_) (λx p hx=> ?_) (ae o' hm)
  ·by_cases e:x=m
   ·rw [e];exact hm
   ·rw [av _ _ e] at hx;exact absurd rfl hx
  ·by_cases e:x=m
   ·rw [e,al] at hx ⊢;exact hx
   ·rw [av _ _ e] at hx;cases hx
 refine hs.new λb1 F1 h=> ?_;refine h.set0 (by decide) rfl λF2 h=> ?_;refine h.pinb (K:=λF2=>∃G' b m,_=w8 b/\F.le G'/\G'.cell ⟨b,0,none⟩=some (.map (some m))/\St G' F2 [bK m []]) λG' l q h=> ?_;exact ⟨G',b1,m,rfl,l,ld q rfl,h⟩
theorem yz {G F:PH} {b m:Nat} {l:List ByteArray} (h:St G F [bK m l]) (hc:G.cell ⟨b,0,none⟩=some (.map (some m))) (s:ByteArray):
  ai prog 179 #[.string s,.pointer (some ⟨b,0,none⟩)] F λr F'=>∃G',r=.bool (decide (s≠emp/\s ∉ l))/\G.le G'/\St G' F' [bK m (s::l)]:=by
 refine QX ?_;unfold KW;obtain ⟨o,ho,hmo⟩:=h.mapAt;have hc':=aH h.le hc;have hlk:=bL (F:=F) LX ho hmo s false;have hin:∀k,gR (s::l) k=if k=s then some (.bool true) else gR l k:=λk=>by
  unfold gR;by_cases e:k=s
  ·simp [e]
  ·simp [e]
 by_cases hs:s=emp\/s∈l
 ·have e1:gR l s=some (.bool true):=if_pos hs;rw [e1] at hlk;refine ⟨_,rfl,some m,hc',true,hlk,λ_=> ?_,λh=>(by cases h)⟩;have hd:decide (s≠emp/\s ∉ l)=false:=by
   rw [decide_eq_false_iff_not];rintro ⟨h1,h2⟩;rcases hs with h|h
   ·exact h1 h
   ·exact h2 h
  refine ⟨G,by rw [hd],aq G,?_⟩;have:bK m (s::l)=bK m l:=by
   unfold bK;funext H
   rw [show gR (s::l)=gR l from funext λk=>by
    rw [hin];by_cases e:k=s
    ·rw [if_pos e,e,e1]
    ·rw [if_neg e]]
  rw [this];exact h
 ·have e1:gR l s=none:=if_neg hs;rw [e1] at hlk;refine ⟨_,rfl,some m,hc',false,hlk,λh=>(by cases h),λ_=>⟨some m,hc',?_⟩⟩;refine aX LX ho hmo s (.bool true) λo' ho'=> ?_;have hd:decide (s≠emp/\s ∉ l)=true:=by rw [decide_eq_true_eq];exact ⟨λe=>hs (.inl e),λe=>hs (.inr e)⟩
  refine ⟨G,by rw [hd],aq G,h.mapSet ?_⟩;rw [show gR (s::l)=_ from funext hin];exact ho'
theorem NP:aE prog 179=true:=by kernel_rfl
def oP (b:Nat):Prop:=(97<=b/\b<=122)\/(65<=b/\b<=90)\/b=95
def uR (b:Nat):Prop:=48<=b/\b<=57
instance (b:Nat):Decidable (oP b):=inferInstanceAs (Decidable (_\/_))
instance (b:Nat):Decidable (uR b):=inferInstanceAs (Decidable (_/\_))
def yA (l:Δ):Bool:=(List.range l.length).all (λi=>decide (oP (l.getD i 0)) || (i !=0 && decide (uR (l.getD i 0)))) && !l.isEmpty
def oe (s:ByteArray):Bool:=yA (bs s)
theorem LY (s:ByteArray) (i:Nat) (h:i<s.size):(s[i]'h).toNat=(bs s).getD i 0:=by rw [<- Kn];unfold cb;rw [dif_pos h]
theorem oQ {F:PH} (s:ByteArray) (hs:s.size<=1000000000):ai prog 142 #[.string s] F λr F'=>r=.bool (oe s)/\F.le F':=by
 refine QO ?_;unfold KM;have hlen:=fU s;refine bz (vH · s _) s.size (λk F'=>F.le F'/\∀i,i<k->(oP ((bs s).getD i 0)\/(i≠0/\uR ((bs s).getD i 0)))) ⟨aq F,λi h=>by omega⟩ ?_;rintro k F1 N hk ⟨hl,hi⟩ next;unfold vH;refine ⟨λhlt=> ?_,λhge=> ?_⟩
 ·have hlt:k<s.size:=by omega
  refine ⟨by omega,by omega,by simpa using hlt,((bs s).getD k 0:Nat),?_,?_⟩
  ·rw [<- LY s k hlt];rfl
  generalize hc:(bs s).getD k 0=c;have bad:¬(oP c\/(k≠0/\uR c))->Value.bool false=.bool (oe s)/\F.le F1:=λhn=>by
   refine ⟨?_,hl⟩;have:oe s=false:=by unfold oe yA;rw [Bool.and_eq_false_iff];refine .inl ?_;rw [List.all_eq_false];refine ⟨k,VA.2 (by omega),?_⟩;rw [hc];simp only [VL,decide_eq_true_eq,VB,bne_iff_ne,ne_eq];exact hn
   rw [this]
  have good:(oP c\/(k≠0/\uR c))->pI N s (k:Int) (λr F'=>r=.bool (oe s)/\F.le F') F1:=λhg=>by
   unfold pI;rw [aI hlt (by omega)];refine next _ hlt ⟨hl,λi hi'=> ?_⟩;by_cases e:i=k
   ·rw [e,hc];exact hg
   ·exact hi i (by omega)
  have j3:∀t:Bool,(t=true↔oP c)->fO N s (k:Int) (c:Int) t (λr F'=>r=.bool (oe s)/\F.le F') F1:=λt ht=>by
   unfold fO;refine ⟨λh=> ?_,λh=>good (.inl (ht.1 (by simpa using h)))⟩;have hnl:¬oP c:=λhl'=>by rw [ht.2 hl'] at h;cases h
   refine ⟨λh0=>bad ?_,λh0=>⟨λh1=>bad ?_,λh1=>⟨λh2=>bad ?_,λh2=>good ?_⟩⟩⟩
   ·rintro (h|h)
    ·exact hnl h
    ·omega
   ·rintro (h|h)
    ·exact hnl h
    ·unfold uR at h;omega
   ·rintro (h|h)
    ·exact hnl h
    ·unfold uR at h;omega
   ·exact .inr ⟨by omega,by unfold uR;omega⟩
  refine ⟨λh1=>⟨λh2=>j3 _ ⟨λ_=>by unfold oP;omega,λ_=>rfl⟩,λh2=>⟨λh3=>⟨λh4=>j3 _ ⟨λ_=>by unfold oP;omega,λ_=>rfl⟩,λh4=>j3 _ ?_⟩,λh3=>j3 _ ?_⟩⟩,
   λh1=>⟨λh3=>⟨λh4=>j3 _ ⟨λ_=>by unfold oP;omega,λ_=>rfl⟩,λh4=>j3 _ ?_⟩,λh3=>j3 _ ?_⟩⟩
  all_goals (rw [decide_eq_true_eq];unfold oP;omega)
 ·have e:k=s.size:=by omega
  subst e;unfold BR;refine ⟨?_,hl⟩;congr 1;rw [qv];unfold oe yA;have h1:(List.range (bs s).length).all (λi=>decide (oP ((bs s).getD i 0)) || (i !=0 && decide (uR ((bs s).getD i 0))))=true:=by rw [Vv];intro i hi';rw [hlen] at hi';have:=hi i (VA.1 hi');simp only [VL,decide_eq_true_eq,VB,bne_iff_ne,ne_eq];exact this
  rw [h1,V4,U3];simp only [Bool.not_eq_true',decide_eq_false_iff_not,List.isEmpty_eq_false_iff];refine not_congr ⟨λe=>by rw [e];rfl,λe=>y9 (e.trans rfl)⟩
section
variable {α:Type} [Mem α] {F:PH}
def LZ (n:Nat) (j:Ω) (f:Sl) (i:Value) (R:VR) (a:Int) (F:PH):Prop:=((a<(f.len:Int)-> ∃g:Addr,f.base=some g/\0<=a/\a<(f.len:Int)/\∃b:Γ,b.size=n/\F.row (Addr.add g (Int.toNat a*n)) b/\∃(h:Nat) (c d:Γ),i=.func (.func h) c d/\aE prog h=true/\ai prog h (c++([.agg b]).toArray++d) F λv F=>∃e:Bool,v=(.bool e)/\((e=true-> R (.int .i64 a) F)/\(e=false-> j (IntKind.i64.wrap (a+(1:Int))) F)))/\(¬(a<(f.len:Int))-> R (.int .i64 (-1:Int)) F))
def SY (n:Nat) (d:Sl) (e:Value) (R:VR) (F:PH):Prop:=(∃(f:Nat->Ω) (c:Nat),f c (0:Int) F/\∀c a F,f c a F-> LZ n (λb F=>∃g,g<c/\f g b F) d e R a F)
theorem yB {s:Sl} {l:List α} (hs:RL F s l) (hn:0<Mem.n α) (hl:l.length<=1000000000) {k:Nat} {fst cap:Γ} (hk:aE prog k=true) (p:α->Bool)
  (hf:∀x∈l,∀c F1,F.le F1->Mem.rep F1 x c->ai prog k (fst++([Value.agg c]).toArray++cap) F1 λr F'=>r=.bool (p x)/\F1.le F'):
  SY (Mem.n α) s (.func (.func k) fst cap) (λr F'=>∃i,r=vi i/\(0<=i↔l.any p=true)/\F.le F') F:=by
 have hlen:=hs.len hn;refine bz (LZ (Mem.n α) · s (.func (.func k) fst cap) _) l.length (λk F'=>F.le F'/\(l.take k).any p=false) ⟨aq F,by simp⟩ ?_;rintro i F1 N hi ⟨hle,hany⟩ next;unfold LZ;refine ⟨λhlt=> ?_,λhge=> ?_⟩
 ·have hlt:i<l.length:=by omega
  obtain ⟨a,c,ha,hr,hc⟩:=(hs.le hle).get hn (N5 hlt);refine ⟨a,ha,by omega,by omega,c,Mem.len hc,by rw [N4];exact hr,k,fst,cap,rfl,hk,?_⟩;refine (hf _ (Wd hlt) c F1 hle hc).mono ?_;rintro _ F2 ⟨rfl,l2⟩;refine ⟨_,rfl,λh=> ?_,λh=> ?_⟩
  ·exact ⟨_,rfl,⟨λ_=>VZ.2 ⟨_,Wd hlt,h⟩,λ_=>by omega⟩,aa hle l2⟩
  ·rw [aI hlt (by omega)];refine next _ hlt ⟨aa hle l2,?_⟩;rw [Vh hlt,List.any_append,hany];simp [h]
 ·have e:i=l.length:=by omega
  subst e;rw [U7] at hany;exact ⟨_,rfl,⟨λh=>by omega,λh=>by rw [hany] at h;cases h⟩,hle⟩
end
theorem ixc {α:Type} [Mem α] {F:PH} {s:Sl} {l:List α} (h:RL F s l) (hn:0<Mem.n α) {i:Int} (h0:0<=i) (h1:i<(s.len:Int)) {K:Addr->Prop}
  (k:∀a c x,l[i.toNat]? =some x->F.row (a.add (i.toNat*Mem.n α)) c->Mem.rep F x c->K a):∃a,s.base=some a/\0<=i/\i<(s.len:Int)/\K a:=by
 have hlen:=h.len hn;have hlt:i.toNat<l.length:=by omega
 obtain ⟨a,c,ha,hr,hc⟩:=h.get hn (N5 hlt);exact ⟨a,ha,h0,h1,k a c _ (N5 hlt) hr hc⟩
def ij (d:Dia) (n:Nat):Prop:=chk d=0/\∀b∈d.1,b.v<n
open Classical in
noncomputable def qw (d:Dia) (n:Nat):Bool:=decide (ij d n)
theorem cM {d:Dia} {n:Nat}:qw d n=true↔ij d n:=by unfold qw;simp
theorem uS {d:Dia} {n:Nat}:qw d n=false↔¬ij d n:=by unfold qw;simp
theorem NQ:aE prog 181=true:=by kernel_rfl
theorem gS {F:PH} {v:Γ} {d:Dia} {n:Nat} (hd:DV F v d):ai prog 143 #[.agg v,vi n] F λr F'=>r=.bool (qw d n)/\F.le F':=by
 obtain ⟨s,rfl,hr⟩:=hd;refine QP ?_;unfold KN;refine fresh λb2 F1 l1 q1 _=> ?_;refine fresh λb3 F2 l2 q2 _=> ?_;replace q1:=l2 _ _ q1;replace hr:=hr.le (aa l1 l2);replace l1:=aa l1 l2;refine ⟨_,rfl,ac q1,?_⟩;refine (iF (d:=d) ⟨s,rfl,hr⟩).mono ?_;rintro _ F3 ⟨rfl,l3⟩;refine ⟨_,rfl,λh=>⟨?_,aa l1 l3⟩,λh=> ?_⟩
 ·have:qw d n=false:=uS.2 λhg=>h hg.1;rw [this]
 ·have h:chk d=0:=Classical.not_not.1 h;have hle:d.1.length<=4096:=by apply Classical.byContradiction;intro hb;unfold chk at h;rw [if_pos (by omega)] at h;omega
  refine ⟨_,ld (l3 _ _ q1) rfl,?_⟩;refine PF ?_;unfold Km;have hs:RL F3 s d.1:=(RL.brs.2 hr).le l3
  refine (show ai prog 201 #[s.v,.func (.func 181) #[] #[.pointer (some ⟨b3,0,none⟩)]] F3 (λr F'=>∃i,r=vi i/\(0<=i↔d.1.any (λb=>decide ((n:Int)<=b.v))=true)/\F3.le F')
   from PK (yB hs (by decide) (by omega) NQ (λb=>decide ((n:Int)<=b.v)) λx hx c F4 l4 hc=> ?_)).mono ?_
  ·rw [show c=aV x from hc];refine QY ?_;unfold KX;refine fresh λb F5 l5 q5 _=> ?_;exact ⟨_,ld q5 rfl,_,rfl,_,ld (l5 _ _ (l4 _ _ (l3 _ _ q2))) rfl,rfl,l5⟩
  ·rintro _ F4 ⟨i,rfl,hi,l4⟩;refine ⟨_,rfl,_,rfl,?_,aa l1 (aa l3 l4)⟩;congr 1;rw [U3,cM];simp only [Bool.not_eq_true',decide_eq_false_iff_not];rw [hi,VZ];constructor
   ·intro hn;refine ⟨h,λb hb=>Int.not_le.1 λhb'=>hn ⟨b,hb,by simpa using hb'⟩⟩
   ·rintro ⟨_,hb⟩ ⟨b,hb1,hb2⟩;have:=hb b hb1;simp at hb2;omega
def dP (g:Gr):Bool:=decide (64<g.conds.length\/256<g.toks.length\/4096<g.fils.length\/2000<g.nons.length\/2000<g.prods.length\/2000<g.lvs.length) || g.prods.any λp=>decide (16<p.right.length\/16<p.lay.length)
theorem HI:aE prog 140=true:=by kernel_rfl
theorem yC {F:PH} {v:Γ} {g:Gr} (hg:GV F v g):ai prog 88 #[.agg v] F λr F'=>r=.bool (dP g)/\F.le F':=by
 obtain ⟨c,n,t,s,p,l,f,rfl,hs⟩:=hg;refine TX ?_;unfold QA;refine fresh λb1 F1 l1 q1 _=> ?_;have e1:=hs.c.len (by decide);have e2:=hs.t.len (by decide);have e3:=hs.s.len (by decide);have e4:=hs.p.len (by decide);have e5:=hs.l.len (by decide);have e6:=hs.f.len (by decide);have bad:(64<g.conds.length\/256<g.toks.length\/4096<g.fils.length\/2000<g.nons.length\/2000<g.prods.length\/2000<g.lvs.length)->(Value.bool true=.bool (dP g)/\F.le F1):=λh=>by refine ⟨?_,l1⟩;unfold dP;rw [decide_eq_true h,Bool.true_or]
 refine ⟨_,ld q1 rfl,λh=>bad (by omega),λh1=>⟨_,ld q1 rfl,λh=>bad (by omega),λh2=>⟨_,ld q1 rfl,λh=>bad (by omega),λh3=>⟨_,ld q1 rfl,_,ld q1 rfl,_,ld q1 rfl,λh=>bad (by omega),λh4=>⟨_,ld q1 rfl,?_⟩⟩⟩⟩⟩;refine PB ?_;unfold Kk
 refine (show ai prog 178 #[p.v,.func (.func 140) #[] #[]] F1 (λr F'=>∃i,r=vi i/\(0<=i↔g.prods.any (λp=>decide (16<p.right.length\/16<p.lay.length))=true)/\F1.le F')
  from PE (yB (hs.p.le l1) (by decide) (by omega) HI (λp=>decide (16<p.right.length\/16<p.lay.length)) λx hx c F4 l4 hc=> ?_)).mono ?_
 ·obtain ⟨r,n',l',rfl,h1,h2,h3⟩:=hc;refine QM ?_;unfold KJ;refine fresh λb F5 l5 q5 _=> ?_;have e1:=h1.len (by decide);have e2:=h3.len (by decide);refine ⟨_,ld q5 rfl,_,ld q5 rfl,?_,l5⟩;congr 1;rw [U3];simp only [decide_eq_true_eq];omega
 ·rintro _ F4 ⟨i,rfl,hi,l4⟩;refine ⟨_,rfl,_,rfl,?_,aa l1 l4⟩;congr 1;unfold dP;have hno:¬(64<g.conds.length\/256<g.toks.length\/4096<g.fils.length\/2000<g.nons.length\/2000<g.prods.length\/2000<g.lvs.length):=by omega
  rw [decide_eq_false hno,WD,U3,decide_eq_true_eq];exact hi
structure Sz (g:Gr):Prop where
 c:∀s∈g.conds,s.size<=1000000000
 t:∀t∈g.toks,t.smp.size<=100000
 l:∀l∈g.lvs,l.ps.length<=1000000000
 f:∀f∈g.fils,f.toks.length<=1000000000
def bE (l:List ByteArray):Prop:=l.Nodup/\emp ∉ l
theorem fM {l:List ByteArray} {s:ByteArray}:bE (l++[s])↔bE l/\s≠emp/\s ∉ l:=by
 unfold bE;rw [Vp];simp only [UX,UU,not_or];constructor
 ·rintro ⟨⟨h1,_,h2⟩,h3,h4⟩;exact ⟨⟨h1,h3⟩,λe=>h4 e.symm,λhm=>h2 s hm s rfl rfl⟩
 ·rintro ⟨⟨h1,h2⟩,h3,h4⟩;exact ⟨⟨h1,by simp,λa ha b hb e=>h4 (by rw [<- hb,<- e];exact ha)⟩,h2,λe=>h3 e.symm⟩
theorem lA {l:List ByteArray} (h:bE l) (k:Nat):bE (l.take k):=⟨h.1.sublist (List.take_sublist k l),λhm=>h.2 (Wh hm)⟩
theorem bu {α:Type} {l:List α} {k:Nat} {x:α} (h:l[k]? =some x):l.take (k+1)=l.take k++[x]:=by obtain ⟨hk,rfl⟩:=N6.1 h;exact Vh hk
theorem o7 {G F:PH} {As:List (Ψ)} {b m:Nat} {l:List ByteArray} (h:St G F (bK m l.reverse::As)) (hc:G.cell ⟨b,0,none⟩=some (.map (some m))) (s:ByteArray) {R:VR}
  (k:∀G' F',G.le G'->St G' F' (bK m (l++[s]).reverse::As)->R (.bool (decide (s≠emp/\s ∉ l))) F'):
  ∃(k28:Nat) (fst28 cap28:Γ),w8 b=.func (.func k28) fst28 cap28/\aE prog k28=true/\ai prog k28 (fst28++([(.string s)]).toArray++cap28) F R:=by
 refine ⟨_,_,_,rfl,NP,?_⟩;have sp:=St.callL (Bs:=[bK m l.reverse]) (Cs:=As) (Bs':=λ_ _=>[bK m (s::l.reverse)]) (P:=λr _=>r=.bool (decide (s≠emp/\s ∉ l.reverse))) h λF1 h1=>(yz h1 hc s).mono λr F' ⟨G',hr,hl,hst⟩=>⟨G',hr,hl,hst⟩;refine sp.mono ?_;rintro r F' ⟨G',rfl,hl,hst⟩;have:=k G' F' hl (by rw [List.reverse_append];exact hst);rw [show decide (s≠emp/\s ∉ l.reverse)=decide (s≠emp/\s ∉ l) by simp];exact this
def NR:ByteArray:=ByteArray.mk #[116,114,117,101]
def L0:ByteArray:=ByteArray.mk #[102,97,108,115,101]
def qx (s:ByteArray):Prop:=oe s=true/\s≠NR/\s≠L0
def og (g:Gr):Prop:=(∀s∈g.conds,qx s)/\bE g.conds/\ij g.fam g.conds.length/\g.fam.2≠0
open Classical in
theorem nk {F:PH} {v:Γ} {g:Gr} (hg:GV F v g) (hz:Sz g) (hl:g.conds.length<=64):ai prog 89 #[.agg v] F λr F'=>r=vi (if og g then 0 else 54)/\F.le F':=by
 obtain ⟨c,n,t,s,p,l,f,rfl,hs⟩:=hg;have ec:=hs.c.len (by decide);refine TY ?_;unfold QB;refine fresh λb1 F1 l1 q1 _=> ?_;replace hs:=hs.le l1;refine (ii F1).mono ?_;rintro _ F2 ⟨G2,bn,m,rfl,l2,hcn,h⟩;refine ⟨_,rfl,_,ld (h.le _ _ (l2 _ _ q1)) rfl,?_⟩;have bad:∀{F'},F1.le F'->¬og g->(vi 54=vi (if og g then 0 else 54)/\F.le F'):=λ{F'} l hn=>⟨by rw [if_neg hn],aa l1 l⟩;refine bz (zE · b1 (w8 bn) c _) g.conds.length (λk F'=>∃G,G2.le G/\St G F' [bK m (g.conds.take k).reverse]/\(∀s∈g.conds.take k,qx s)/\bE (g.conds.take k))
  ⟨G2,aq _,h,by simp,by simp [bE]⟩ ?_
 rintro k F3 N hk ⟨G3,l3,h,hi,hi2⟩ next;have l13:=aa l2 l3;unfold zE;refine ⟨λhlt=> ?_,λhge=> ?_⟩
 ·have hlt:k<g.conds.length:=by omega
  refine ixc ((hs.c.le l13).le h.le) (by decide) (by omega) (by omega) λa cc x hx hr hc=> ?_;rw [N4] at hx hr;rw [show cc= #[.string x] from hc] at hr;have hxm:x∈g.conds:=UY hx;refine ⟨_,be hr rfl,?_⟩;refine h.runv (oQ x (hz.c x hxm)) λG4 F4 l4 h=>⟨_,rfl,λhb=> ?_,λhb=>⟨λhb2=> ?_,λhb2=>⟨λhb3=> ?_,λhb3=> ?_⟩⟩⟩
  ·exact bad (aa l13 (aa l4 h.le)) λhn=>by rw [(hn.1 x hxm).1] at hb;cases hb
  ·exact bad (aa l13 (aa l4 h.le)) λhn=>(hn.1 x hxm).2.1 (by rw [qv] at hb2;exact of_decide_eq_true hb2)
  ·exact bad (aa l13 (aa l4 h.le)) λhn=>(hn.1 x hxm).2.2 (by rw [qv] at hb3;exact of_decide_eq_true hb3)
  ·refine o7 h (aH (aa l3 l4) hcn) x λG5 F5 l5 h=> ?_;have l15:=aa l13 (aa l4 l5);refine ⟨_,rfl,λhb4=> ?_,λhb4=> ?_⟩
   ·refine bad (aa l15 h.le) λhn=> ?_;have:=lA hn.2.1 (k+1);rw [bu hx,fM] at this;rw [decide_eq_true this.2] at hb4;cases hb4
   ·rw [aI hlt (by omega)];have hb4:x≠emp/\x ∉ g.conds.take k:=by simpa using hb4
    rw [<- bu hx] at h;refine next _ hlt ⟨G5,aa l3 (aa l4 l5),h,λs hs=> ?_,?_⟩
    ·rw [bu hx] at hs;rcases UX.1 hs with hs|hs
     ·exact hi s hs
     ·rw [UU.1 hs];rw [qv] at hb2 hb3;exact ⟨by simpa using hb,of_decide_eq_false hb2,of_decide_eq_false hb3⟩
    ·rw [bu hx,fM];exact ⟨hi2,hb4⟩
 ·have e:k=g.conds.length:=by omega
  subst e;rw [U7] at hi hi2;unfold Ga;refine ⟨#[n.v,vi g.fam.2],rfl,kD (h.le _ _ (l13 _ _ q1)) rfl,_,ld (h.le _ _ (l13 _ _ q1)) rfl,?_⟩;dsimp only;rw [ec];refine h.runv (gS (d:=g.fam) (DV.mk (hs.n.le l13))) λG4 F4 l4 h=>⟨_,rfl,λhb=> ?_,λhb=> ?_⟩
  ·refine bad (aa l13 (aa l4 h.le)) λhn=> ?_;have:qw g.fam g.conds.length=true:=cM.2 hn.2.2.1;rw [this] at hb;cases hb
  ·refine ⟨_,ld (h.le _ _ (l4 _ _ (l13 _ _ q1))) rfl,λh0=> ?_,λh0=> ?_⟩
   ·exact bad (aa l13 (aa l4 h.le)) λhn=>hn.2.2.2 h0
   ·refine ⟨?_,aa l1 (aa l13 (aa l4 h.le))⟩;rw [if_pos ⟨hi,hi2,cM.1 (by simpa using hb),h0⟩]
def jl (g:Gr):Prop:=bE g.nons/\0<=g.start/\g.start<g.nons.length
open Classical in
theorem qy {F:PH} {v:Γ} {g:Gr} (hg:GV F v g) (hl:g.nons.length<=2000):ai prog 91 #[.agg v] F λr F'=>r=vi (if jl g then 0 else 50)/\F.le F':=by
 obtain ⟨c,n,t,s,p,l,f,rfl,hs⟩:=hg;have es:=hs.s.len (by decide);refine T0 ?_;unfold QD;refine fresh λb1 F1 l1 q1 _=> ?_;replace hs:=hs.le l1;refine (ii F1).mono ?_;rintro _ F2 ⟨G2,bn,m,rfl,l2,hcn,h⟩;refine ⟨_,rfl,_,ld (h.le _ _ (l2 _ _ q1)) rfl,?_⟩;have bad:∀{F'},F1.le F'->¬jl g->(vi 50=vi (if jl g then 0 else 50)/\F.le F'):=λ{F'} l hn=>⟨by rw [if_neg hn],aa l1 l⟩;refine bz (zI · b1 (w8 bn) s _) g.nons.length (λk F'=>∃G,G2.le G/\St G F' [bK m (g.nons.take k).reverse]/\bE (g.nons.take k))
  ⟨G2,aq _,h,by simp [bE]⟩ ?_
 rintro k F3 N hk ⟨G3,l3,h,hi2⟩ next;have l13:=aa l2 l3;unfold zI;refine ⟨λhlt=> ?_,λhge=> ?_⟩
 ·have hlt:k<g.nons.length:=by omega
  refine ixc ((hs.s.le l13).le h.le) (by decide) (by omega) (by omega) λa cc x hx hr hc=> ?_;rw [N4] at hx hr;rw [show cc= #[.string x] from hc] at hr;refine ⟨_,be hr rfl,?_⟩;refine o7 h (aH l3 hcn) x λG5 F5 l5 h=> ?_;have l15:=aa l13 l5;refine ⟨_,rfl,λhb4=> ?_,λhb4=> ?_⟩
  ·refine bad (aa l15 h.le) λhn=> ?_;have:=lA hn.1 (k+1);rw [bu hx,fM] at this;rw [decide_eq_true this.2] at hb4;cases hb4
  ·rw [aI hlt (by omega)];have hb4:x≠emp/\x ∉ g.nons.take k:=by simpa using hb4
   rw [<- bu hx] at h;refine next _ hlt ⟨G5,aa l3 l5,h,?_⟩;rw [bu hx,fM];exact ⟨hi2,hb4⟩
 ·have e:k=g.nons.length:=by omega
  subst e;rw [U7] at hi2;unfold Gc;have q:=h.le _ _ (l13 _ _ q1);refine ⟨_,ld q rfl,λh0=>bad (aa l13 h.le) λhn=>by have:=hn.2.1;omega,λh0=>⟨_,ld q rfl,_,ld q rfl,λh1=>bad (aa l13 h.le) λhn=>by have:=hn.2.2;omega,λh1=>⟨?_,aa l1 (aa l13 h.le)⟩⟩⟩;rw [if_pos ⟨hi2,by omega,by omega⟩]
inductive Scl:TypeId->Value->Value->Bool->Prop
 |int {t:TypeId} {k:IntKind} {a b:Int}:prog.underlying t=some (.int k)->Scl t (.int k a) (.int k b) (decide (a=b))
 |bool {t:TypeId} {a b:Bool}:prog.underlying t=some .bool->Scl t (.bool a) (.bool b) (decide (a=b))
theorem Scl.eq {t:TypeId} {v w:Value} {r:Bool} (h:Scl t v w r) (d:Nat) (F:PH):rdo prog (Op.equalIn (d+1) t v w) F r:=by
 cases h with
 | @int k a b ht=>exact Bw t k ht d a b
 | @bool a b ht=>simp only [Op.equalIn,aj];refine ⟨_,(az ht _).2 rfl,?_⟩;show (a==b)=decide (a=b);cases a<;>cases b<;>rfl
theorem Scl.part {t:TypeId} {v w:Value} {r:Bool} (h:Scl t v w r) {cs:Γ} {off:Nat} {x:Value} (hx:cs[off]? =some x) (F:PH):rdo prog (part t cs off) F x:=by
 have ha:∀d,prog.underlying t=some d->((∃k,d=.int k)\/d=.bool)->rdo prog (Go.part t cs off) F x:=λd hd hk=>by unfold Go.part;simp only [aj];refine ⟨false,(dH hd _).2 (by rcases hk with ⟨k,rfl⟩|rfl<;>rfl),?_⟩;simp only [Vu,if_false,hx];rfl
 cases h with
 | @int k a b ht=>exact ha _ ht (.inl ⟨k,rfl⟩)
 | @bool a b ht=>exact ha _ ht (.inr rfl)
theorem w9 {t:TypeId} {fs:Array Field} (ht:prog.underlying t=some (.struct fs)) (hsi:prog.stoodInHeld t=false) {cs ds:Γ} (e:Field->Bool)
  (hall:∀f∈fs.toList,f.name≠ "_"/\∃v w,cs[f.offset]? =some v/\ds[f.offset]? =some w/\Scl f.type v w (e f)) (F:PH):
  rdo prog (Op.equal t (.agg cs) (.agg ds)) F (fs.toList.all e):=by
 unfold Op.equal Op.maxDepth;show rdo prog (Op.equalIn (9998+1+1) t _ _) _ _;unfold Op.equalIn;simp only [aj];refine ⟨_,(az ht _).2 rfl,?_⟩;dsimp only;rw [aj];refine ⟨prog,rfl,?_⟩;rw [hsi];simp only [Vu,if_false];rw [<- Array.forIn_toList,aj];refine ⟨_,zg _ e _ λf hf=> ?_,?_⟩
 ·obtain ⟨h1,v,w,h2,h3,h4⟩:=hall f hf;rw [if_pos h1];simp only [aj];refine ⟨_,h4.part h2 F,_,h4.part h3 F,_,h4.eq 9998 F,?_⟩;cases e f<;>rfl
 ·cases fs.toList.all e<;>rfl
theorem NS (x y:Sy) (F:PH):rdo prog (Op.equal 63 (.agg x.arr) (.agg y.arr)) F (decide (x=y)):=by
 have h:=w9 (t:=63) underlying63 (by kernel_rfl) (cs:=x.arr) (ds:=y.arr) (λf=>if f.offset=0 then decide (x.t=y.t) else decide (x.i=y.i)) (λf hf=>by
  simp only [UT,V2,or_false] at hf;rcases hf with rfl|rfl
  ·exact ⟨by decide,_,_,rfl,rfl,.bool underlying4⟩
  ·exact ⟨by decide,_,_,rfl,rfl,.int underlying3⟩) F
 refine cast ?_ h;congr 1;cases x;cases y;rw [U3];simp [Sy.mk.injEq]
abbrev Sco.arr (s:Sco):Γ:= #[.bool s.o,vi s.d,vi s.k,vi s.u,vi s.a]
theorem Jx (x y:Sco) (F:PH):rdo prog (Op.equal 53 (.agg x.arr) (.agg y.arr)) F (decide (x=y)):=by
 have h:=w9 (t:=53) underlying53 (by kernel_rfl) (cs:=x.arr) (ds:=y.arr)
  (λf=>if f.offset=0 then decide (x.o=y.o) else if f.offset=1 then decide (x.d=y.d) else if f.offset=2 then decide (x.k=y.k) else if f.offset=3 then decide (x.u=y.u) else decide (x.a=y.a)) (λf hf=>by
  simp only [UT,V2,or_false] at hf;rcases hf with rfl|rfl|rfl|rfl|rfl
  ·exact ⟨by decide,_,_,rfl,rfl,.bool underlying4⟩
  all_goals exact ⟨by decide,_,_,rfl,rfl,.int underlying3⟩) F
 refine cast ?_ h;congr 1;cases x;cases y;rw [U3];simp [Sco.mk.injEq]
def kC (g:Gr) (s:Sy):Prop:=0<=s.i/\(s.t=false->s.i<g.nons.length)/\(s.t=true->∃t,g.toks[s.i.toNat]? =some t/\t.cls=0)
instance (g:Gr) (s:Sy):Decidable (kC g s):=by
 have:Decidable (∃t,g.toks[s.i.toNat]? =some t/\t.cls=0):=by
  cases h:g.toks[s.i.toNat]? with
  |none=>exact isFalse λ⟨t,h1,_⟩=>by cases h1
  |some t=>exact decidable_of_iff (t.cls=0) ⟨λe=>⟨t,rfl,e⟩,λ⟨u,h1,h2⟩=>by cases h1;exact h2⟩
 unfold kC;exact inferInstance
theorem xa {F:PH} {v:Γ} {g:Gr} (hg:GV F v g) (x:Sy):ai prog 147 #[.agg v,.agg x.arr] F λr F'=>r=.bool (decide (kC g x))/\F.le F':=by
 obtain ⟨c,n,t,s,p,l,f,rfl,hs⟩:=hg;refine QR ?_;unfold KP;refine fresh λb2 F1 l1 q1 _=> ?_;refine fresh λb3 F2 l2 q2 _=> ?_;replace q1:=l2 _ _ q1;replace l1:=aa l1 l2;have es:=hs.s.len (by decide);have et:=hs.t.len (by decide);obtain ⟨xt,xi⟩:=x;have no:¬kC g ⟨xt,xi⟩->(Value.bool false=.bool (decide (kC g ⟨xt,xi⟩))/\F.le F2):=λh=>⟨by rw [decide_eq_false h],l1⟩;refine ⟨_,ld q2 rfl,λh=>⟨_,ld q2 rfl,λh0=>⟨_,ld q2 rfl,_,ld q1 rfl,?_,l1⟩,λh0=>no λhp=>h0 hp.1⟩,λh=>⟨_,ld q2 rfl,λh0=>⟨_,ld q2 rfl,_,ld q1 rfl,λh1=>⟨_,ld q1 rfl,_,ld q2 rfl,?_⟩,λh1=>no λhp=> ?_⟩,λh0=>no λhp=>h0 hp.1⟩⟩
 ·have h:xt=false:=by simpa using h
  subst h;congr 1;rw [U3,decide_eq_true_eq,decide_eq_true_eq];exact ⟨λh1=>⟨h0,λ_=>by dsimp only at h1 ⊢;omega,λh=>(by cases h)⟩,λhp=>by have:=hp.2.1 rfl;dsimp only at this ⊢;omega⟩
 ·have h:xt=true:=by simpa using h
  subst h;refine ixc (hs.t.le l1) (by decide) h0 h1 λa cc y hy hr hc=> ?_;obtain ⟨pp,nn,rfl,_,_⟩:=hc;refine ⟨_,dc hr rfl,?_,l1⟩;congr 1;rw [U3,decide_eq_true_eq,decide_eq_true_eq]
  exact ⟨λh1=>⟨h0,λh=>(by cases h),λ_=>⟨y,hy,h1⟩⟩,λhp=>by
   obtain ⟨z,hz,h2⟩:=hp.2.2 rfl;rw [hy] at hz;cases hz
   exact h2⟩
 ·have h:xt=true:=by simpa using h
  subst h;obtain ⟨z,hz,_⟩:=hp.2.2 rfl;have:=(N6.1 hz).1;dsimp only at this h1;omega
def eJ (r:List Sy) (k v lo hi:Int):Prop:=(k=0/\v=0)\/(0<k/\k<=r.length/\(∃s,r[(k - 1).toNat]? =some s/\s.t=true)/\lo<=v/\v<=hi)
def yD (r:List Sy) (x:Cn):Prop:=1<=x.k/\x.k<=4/\0<=x.a/\x.a<r.length/\0<=x.b/\x.b<r.length/\(x.k=1->x.b=0)
def qz:Sco:=⟨false,0,0,0,0⟩
def yF (p:Pr):Prop:=p.right.length=3/\p.rank=0/\p.lay=[]/\p.sco=qz/\(∃s,p.right[0]? =some s/\s.t=true)/\p.right[1]? =some ⟨false,p.left⟩/\(∃s,p.right[2]? =some s/\s.t=true)
def nq (p:Pr):Prop:=(∀x∈p.lay,yD p.right x)/\eJ p.right p.sco.d p.sco.k 1 7/\eJ p.right p.sco.u p.sco.a 0 255/\(p.brk=true->yF p)
open Classical in
theorem qA {F:PH} {b:Nat} {x:Pr} {r n l:Sl} (hr:RL F r x.right) (q:F b=some (.cells (x.arr r n l) 55)) (k v lo hi:Int) (hk:x.right.length<=16):
  ai prog 189 #[vi k,vi v,vi lo,vi hi,.pointer (some ⟨b,0,none⟩)] F λres F'=>res=.bool (decide (eJ x.right k v lo hi))/\F.le F':=by
 refine Q0 ?_;unfold KZ;have er:=hr.len (by decide);have no:¬eJ x.right k v lo hi->(Value.bool false=.bool (decide (eJ x.right k v lo hi))/\F.le F):=λh=>⟨by rw [decide_eq_false h],aq F⟩;have hcell:F.cell (Addr.add (Addr.mk b 0 none) 2)=some r.v:=by rw [aB];exact ld q rfl
 refine ⟨λh0=>⟨?_,aq F⟩,λh0=>⟨λh1=>⟨_,rfl,_,hcell,λh2=>⟨_,hcell,?_⟩,λh2=>no ?_⟩,λh1=>no ?_⟩⟩
 ·congr 1;rw [U3,decide_eq_true_eq,decide_eq_true_eq];exact ⟨λh=> .inl ⟨h0,h⟩,λh=>h.elim (λh=>h.2) λh=>by omega⟩
 ·have ew:IntKind.i64.wrap (k - 1)=k - 1:=aS (by omega) (by omega);rw [ew];refine ixc hr (by decide) (by omega) (by omega) λa c s hs hrow hc=> ?_;rw [show c=s.arr from hc] at hrow;refine ⟨_,be hrow rfl,λht=>⟨λh3=>⟨?_,aq F⟩,λh3=>no ?_⟩,λht=>no ?_⟩
  ·congr 1;rw [U3,decide_eq_true_eq,decide_eq_true_eq];exact ⟨λh=> .inr ⟨h1,by omega,⟨s,hs,ht⟩,h3,h⟩,λh=>h.elim (λh=>by omega) λh=>h.2.2.2.2⟩
  ·rintro (h|h)
   ·omega
   ·exact h3 h.2.2.2.1
  ·rintro (h|h)
   ·omega
   ·obtain ⟨s',hs',ht'⟩:=h.2.2.1;rw [hs] at hs';cases hs';rw [ht] at ht';cases ht'
 ·rintro (h|h)
  ·omega
  ·omega
 ·rintro (h|h)
  ·omega
  ·omega
theorem qB {F:PH} {b:Nat} {x:Pr} {r n l:Sl} (hr:RL F r x.right) (q:F b=some (.cells (x.arr r n l) 55)) (i:Int):
  ai prog 188 #[vi i,.pointer (some ⟨b,0,none⟩)] F λres F'=>res=.bool (decide (0<=i/\i<x.right.length))/\F.le F':=by
 refine QZ ?_;unfold KY;have er:=hr.len (by decide);have hcell:F.cell (Addr.add (Addr.mk b 0 none) 2)=some r.v:=by rw [aB];exact ld q rfl
 refine ⟨λh=>⟨_,rfl,_,hcell,?_,aq F⟩,λh=>⟨?_,aq F⟩⟩
 ·congr 1;rw [U3,decide_eq_true_eq,decide_eq_true_eq];omega
 ·rw [decide_eq_false (λhn=>h hn.1)]
open Classical in
theorem uT {F:PH} {v:Γ} {x:Pr} (hp:Mem.rep F x v) (h1:x.right.length<=16) (h2:x.lay.length<=16):ai prog 149 #[.agg v] F λr F'=>r=.bool (decide (nq x))/\F.le F':=by
 obtain ⟨r,n,l,rfl,hr,hn,hl⟩:=hp;have er:=hr.len (by decide);have el:=hl.len (by decide);refine QS ?_;unfold KQ;refine fresh λb1 F1 l1 q1 _=>⟨_,ld q1 rfl,?_⟩;replace hr:=hr.le l1;replace hl:=hl.le l1;have no:∀{F':PH},F1.le F'->¬nq x->(Value.bool false=.bool (decide (nq x))/\F.le F'):=λ{F'} l h=>⟨by rw [decide_eq_false h],aa l1 l⟩;refine bz (vI · b1 l _) x.lay.length (λk F'=>F1.le F'/\∀y∈x.lay.take k,yD x.right y) ⟨aq _,by simp⟩ ?_;rintro k F2 N hk ⟨l2,hi⟩ next;unfold vI;refine ⟨λhlt=> ?_,λhge=> ?_⟩
 ·have hlt:k<x.lay.length:=by omega
  refine ixc (hl.le l2) (by decide) (by omega) (by omega) λa c y hy hrow hc=> ?_;rw [show c=y.arr from hc] at hrow;rw [N4] at hy hrow;have hym:y∈x.lay:=UY hy;refine ⟨_,rfl,hrow,?_⟩;refine (St.start F2).new λb4 F3 h=> ?_;refine h.put0 (w':=y.arr) rfl rfl (by simp [ak]) λF4 h=> ?_;obtain ⟨_,_,q4,h⟩:∃G',F2.le G'/\G' b4=some (.cells y.arr 153)/\G'.le F4:=h.pinb (K:=λF4=>∃G',F2.le G'/\G' b4=some (.cells y.arr 153)/\G'.le F4) λG' l q h=>⟨G',l,q,h.le⟩;have l4:F2.le F4:=aa ‹F2.le _› h;replace q4:=h _ _ q4;replace l4:=aa l2 l4;have good:yD x.right y->∀F5,F1.le F5->pJ N b1 l (k:Int) (λr F'=>r=.bool (decide (nq x))/\F.le F') F5:=λhg F5 l5=>by
   unfold pJ;rw [aI hlt (by omega)];refine next _ hlt ⟨l5,λz hz=> ?_⟩;rw [bu hy] at hz;rcases UX.1 hz with hz|hz
   ·exact hi z hz
   ·rw [UU.1 hz];exact hg
  have bad:∀{F':PH},F1.le F'->¬yD x.right y->(Value.bool false=.bool (decide (nq x))/\F.le F'):=λ{F'} l h=>no l λhd=>h (hd.1 y hym);refine ⟨_,ld q4 rfl,λh=>bad l4 λhp=>by have:=hp.1;omega,λk1=>⟨_,ld q4 rfl,λh=>bad l4 λhp=>by have:=hp.2.1;omega,λk2=>⟨_,ld q4 rfl,?_⟩⟩⟩;refine (qB (hr.le l4) (l4 _ _ q1) y.a).mono ?_;rintro _ F5 ⟨rfl,l5⟩;refine ⟨_,rfl,λh=>bad (aa l4 l5) λhp=> ?_,λk3=>⟨_,ld (l5 _ _ q4) rfl,?_⟩⟩
  ·rw [decide_eq_true ⟨hp.2.2.1,hp.2.2.2.1⟩] at h;cases h
  refine (qB (hr.le (aa l4 l5)) (l5 _ _ (l4 _ _ q1)) y.b).mono ?_;rintro _ F6 ⟨rfl,l6⟩;have l46:=aa l4 (aa l5 l6);have q6:=l6 _ _ (l5 _ _ q4);refine ⟨_,rfl,λh=>bad l46 λhp=> ?_,λk4=>⟨_,ld q6 rfl,λk5=>⟨_,ld q6 rfl,λk6=>bad l46 λhp=>k6 (hp.2.2.2.2.2.2 k5),λk6=>good ?_ _ l46⟩,λk5=>good ?_ _ l46⟩⟩
  ·rw [decide_eq_true ⟨hp.2.2.2.2.1,hp.2.2.2.2.2.1⟩] at h;cases h
  ·simp at k3 k4;exact ⟨by omega,by omega,k3.1,k3.2,k4.1,k4.2,λ_=>by omega⟩
  ·simp at k3 k4;exact ⟨by omega,by omega,k3.1,k3.2,k4.1,k4.2,λh=>absurd h k5⟩
 ·have e:k=x.lay.length:=by omega
  subst e;rw [U7] at hi;unfold BS;refine ⟨x.sco.arr,rfl,kD (l2 _ _ q1) rfl,?_⟩;refine (St.start F2).new λb7 F3 h=> ?_;refine h.put0 (w':=x.sco.arr) rfl rfl (by simp [ak]) λF4 h=> ?_;obtain ⟨_,_,q4,h⟩:∃G',F2.le G'/\G' b7=some (.cells x.sco.arr 53)/\G'.le F4:=h.pinb (K:=λF4=>∃G',F2.le G'/\G' b7=some (.cells x.sco.arr 53)/\G'.le F4) λG' l q h=>⟨G',l,q,h.le⟩;have l4:F2.le F4:=aa ‹F2.le _› h;replace q4:=h _ _ q4;replace l4:=aa l2 l4;refine ⟨_,ld q4 rfl,_,ld q4 rfl,?_⟩;refine (qA (hr.le l4) (l4 _ _ q1) x.sco.d x.sco.k 1 7 h1).mono ?_;rintro _ F5 ⟨rfl,l5⟩;refine ⟨_,rfl,λh=>no (aa l4 l5) λhp=> ?_,λk3=>⟨_,ld (l5 _ _ q4) rfl,_,ld (l5 _ _ q4) rfl,?_⟩⟩
  ·rw [decide_eq_true hp.2.1] at h;cases h
  refine (qA (hr.le (aa l4 l5)) (l5 _ _ (l4 _ _ q1)) x.sco.u x.sco.a 0 255 h1).mono ?_;rintro _ F6 ⟨rfl,l6⟩;have l46:=aa l4 (aa l5 l6);have q6:=l6 _ _ (l5 _ _ q4);have p1:=l46 _ _ q1;refine ⟨_,rfl,λh=>no l46 λhp=> ?_,λk4=> ?_⟩
  ·rw [decide_eq_true hp.2.2.1] at h;cases h
  have k3:eJ x.right x.sco.d x.sco.k 1 7:=by simpa using k3
  have k4:eJ x.right x.sco.u x.sco.a 0 255:=by simpa using k4
  refine ⟨_,ld p1 rfl,λhb=>⟨?_,aa l1 l46⟩,λhb=> ?_⟩
  ·rw [decide_eq_true ⟨hi,k3,k4,λh=>by rw [h] at hb;cases hb⟩]
  have hb:x.brk=true:=by simpa using hb
  have nob:¬yF x->(Value.bool false=.bool (decide (nq x))/\F.le F6):=λh=>no l46 λhp=>h (hp.2.2.2 hb);refine ⟨_,ld p1 rfl,λh=>nob λhp=>h (by have:=hp.1;omega),λk5=>⟨_,ld p1 rfl,λh=>nob λhp=>h hp.2.1,λk6=>⟨_,ld p1 rfl,λh=>nob λhp=> ?_,λk7=>⟨_,rfl,ac q6,_,λF=>Jx x.sco qz F,λh=>nob λhp=> ?_,λk8=> ?_⟩⟩⟩⟩
  ·have:=hp.2.2.1;rw [this] at el;simp at el;omega
  ·rw [decide_eq_true hp.2.2.2.1] at h;cases h
  have k8:x.sco=qz:=by simpa using k8
  have hr6:=hr.le l46;refine ⟨_,ld p1 rfl,ixc hr6 (by decide) (by omega) (by omega) λa c y hy hrow hc=> ?_⟩;rw [show c=y.arr from hc] at hrow;refine ⟨_,be hrow rfl,λk9=>⟨_,ld p1 rfl,ixc hr6 (by decide) (by omega) (by omega) λa c z hz hrow hc=> ?_⟩,λk9=>nob λhp=> ?_⟩
  ·rw [show c=z.arr from hc] at hrow;refine ⟨_,rfl,hrow,_,ld p1 rfl,_,λF=>NS z ⟨false,x.left⟩ F,λk10=>⟨_,ld p1 rfl,ixc hr6 (by decide) (by omega) (by omega) λa c w hw hrow hc=> ?_⟩,λk10=>nob λhp=> ?_⟩
   ·rw [show c=w.arr from hc] at hrow;refine ⟨_,be hrow rfl,?_,aa l1 l46⟩;have k10:z=⟨false,x.left⟩:=by simpa using k10
    subst k10;congr 1;cases hwt:w.t with
    |true=>refine (decide_eq_true ⟨hi,k3,k4,λ_=>⟨by omega,Classical.not_not.1 k6,?_,k8,⟨y,hy,k9⟩,hz,⟨w,hw,hwt⟩⟩⟩).symm;exact Vc (by omega)
    |false=>refine (decide_eq_false λhp=> ?_).symm;obtain ⟨s,hs,hst⟩:=(hp.2.2.2 hb).2.2.2.2.2.2;rw [show x.right[2]? =some w from hw] at hs;cases hs;rw [hwt] at hst;cases hst
   ·have e:some z=_:=hz.symm.trans hp.2.2.2.2.2.1;cases e;simp at k10
  ·obtain ⟨s,hs,hst⟩:=hp.2.2.2.2.1;have e:some y=_:=hy.symm.trans hs;cases e;rw [k9] at hst;cases hst
end Go.Proofs.YtcemhghkipgdiaaGreatDoor

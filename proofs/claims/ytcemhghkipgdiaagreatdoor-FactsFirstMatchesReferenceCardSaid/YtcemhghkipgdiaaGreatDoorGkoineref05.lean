/-
  What functions of the program do, in a clean form, each with the proof that its code does so. Printed by a program.
-/
import Derived.Test.YtcemhghkipgdiaaGreatDoorGgrammar
set_option maxRecDepth 10000
open Option renaming some->Y3,none->Y5
open Go.Obj renaming cells->Y4
open Bool renaming false->Y6,true->Y8
open Go.Value renaming agg->Y9,bool->Za,pointer->Ze,int->Zf,string->Zg,slice->Zm
open Go.Addr renaming add->Zb,mk->Zc
open Int renaming toNat->Zd,tmod->Zk
open Array renaming setIfInBounds->Zl
noncomputable section
namespace Go.Proofs.YtcemhghkipgdiaaGreatDoor
open Go.IntKind (i64 u8 u64)
open Sl renaming v->Y7,nil->Zi,mk->Zj
open Go Go.Proofs.Tryz
theorem gY (a b:ο):(a.toList==b.toList)=decide (a=b):=by rw [Hf,Xc,δ,δ];exact ⟨wE,λh=>by rw [h]⟩
theorem xJ (a b:ο):(a==b)=decide (a=b):=by show (a.data==b.data)=_;rw [Xc,beq_iff_eq,δ];exact ⟨λh=>by cases a;cases b;cases h;rfl,λh=>by rw [h]⟩
instance:LawfulBEq ο where
 eq_of_beq {a b} h:=by rw [xJ] at h;exact ε h
 rfl {a}:=by rw [xJ];exact ζ rfl
abbrev emp:ByteArray:=ByteArray.mk #[]
theorem VC:oG prog 9 Zg:=by
 refine ⟨λF a b=> ?_,λF e a=> ?_,λa=> ?_,_,underlying9,.inl λa b=> ?_⟩
 ·unfold Op.equal Op.maxDepth;show rdo prog (Op.equalIn (9999+1) 9 (.string a) (.string b)) F _;unfold Op.equalIn;simp only [aj];refine ⟨_,(av underlying9 _).2 rfl,?_⟩;exact xJ a b
 ·show rdo prog (Instr.checkKey e (9999+1) 9 (.string a)) F ();unfold Instr.checkKey;simp only [aj];exact ⟨_,(av underlying9 _).2 rfl,rfl⟩
 ·show (a==a)=Y8;rw [xJ];simp
 ·show Y3 (a==b)=_;rw [xJ]
theorem QA:bO prog 4=Y3 (Za Y6):=by kernel_rfl
theorem N8:gj prog 222 Value.string (.bool Y6):=⟨_,_,underlying222,QA,VC⟩
def gZ (l:List ο) (s:ο):Option ξ:=if s=emp\/s∈l then Y3 (Za Y8) else Y5
def bG (m:Nat) (l:List ο):Ψ:=λH=>∃o,H m=Y3 o/\eJ Zg (gZ l) o
theorem St.mapAt {G F:PH} {As:List (Ψ)} {m:Nat} {l:List ο} (h:St G F (bG m l::As)):∃o,F m=Y3 o/\eJ Zg (gZ l) o:=by obtain ⟨H,⟨o,h1,h2⟩,_,h3⟩:=h.get (i:=0) rfl;exact ⟨o,h3 _ _ h1,h2⟩
theorem St.mapSet {G F:PH} {As:List (Ψ)} {m:Nat} {l l':List ο} {o':Obj} (h:St G F (bG m l::As)) (ho:eJ Zg (gZ l') o'):St G (F.set m o') (bG m l'::As):=by
 obtain ⟨H,⟨o,a1,_⟩,a2,a3,a4⟩:=h.set (i:=0) (A':=bG m l') rfl;refine a4 (H.set m o') _ ⟨o',al _ _ _,ho⟩ (λx hx=> ?_) (λx p hx=> ?_) (λx p hx hn=> ?_)
 ·by_cases e:x=m
  ·rw [e,a1];exact .inl (by simp)
  ·rw [az _ _ e] at hx;exact .inl hx
 ·by_cases e:x=m
  ·rw [e,al] at hx ⊢;exact hx
  ·rw [az _ _ e] at hx ⊢;exact a3 _ _ hx
 ·have e:x≠m:=λe=>by rw [e,a1] at hn;cases hn
  rw [az _ _ e];exact hx
abbrev xK (b:Nat):Value:=.func (.func 179) #[] #[Ze (Y3 ⟨b,0,Y5⟩)]
theorem iB (F:PH):ν 141 #[] F λr F'=>∃G' b m,r=xK b/\F.le G'/\G'.cell ⟨b,0,Y5⟩=Y3 (.map (Y3 m))/\St G' F' [bG m []]:=by
 refine Sh ?_;unfold MA;intro m hm;refine atI ?_;refine aV N8 (al _ _ _) (eJ.empty _) emp (Za Y8) λo' ho'=> ?_;rw [aT];have hs:St F (F.set m o') [bG m []]:=by
  have ho2:eJ Zg (gZ []) o':=by obtain ⟨es,c,L,h1,h2,h3⟩:=ho';refine ⟨es,c,L,h1,h2,λk=> ?_⟩;rw [<- h3 k];unfold gZ;by_cases e:k=emp<;>simp [e]
  refine (St.start F).push (H:=PH.set (λ_=>Y5) m o') ⟨o',al _ _ _,ho2⟩ (λx hx=> ?_) (λx p hx=> ?_) (ae o' hm)
  ·by_cases e:x=m
   ·rw [e];exact hm
   ·rw [az _ _ e] at hx;exact absurd rfl hx
  ·by_cases e:x=m
   ·rw [e,al] at hx ⊢;exact hx
   ·rw [az _ _ e] at hx;cases hx
 refine hs.new λb1 F1 h=> ?_;refine h.set0 (by decide) rfl λF2 h=> ?_;refine h.pinb (K:=λF2=>∃G' b m,_=xK b/\F.le G'/\G'.cell ⟨b,0,Y5⟩=Y3 (.map (Y3 m))/\St G' F2 [bG m []]) λG' l q h=> ?_;exact ⟨G',b1,m,rfl,l,ld q rfl,h⟩
theorem zB {G F:PH} {b m:Nat} {l:List ο} (h:St G F [bG m l]) (hc:G.cell ⟨b,0,Y5⟩=Y3 (.map (Y3 m))) (s:ο):
  ν 179 #[Zg s,Ze (Y3 ⟨b,0,Y5⟩)] F λr F'=>∃G',r=Za (decide (s≠emp/\s ∉ l))/\G.le G'/\St G' F' [bG m (s::l)]:=by
 refine Sv ?_;unfold ML;obtain ⟨o,ho,hmo⟩:=h.mapAt;have hc':=aI h.le hc;have hlk:=bJ (F:=F) N8 ho hmo s Y6;have hin:∀k,gZ (s::l) k=if k=s then Y3 (Za Y8) else gZ l k:=λk=>by
  unfold gZ;by_cases e:k=s
  ·simp [e]
  ·simp [e]
 by_cases hs:s=emp\/s∈l
 ·have e1:gZ l s=Y3 (Za Y8):=Χ hs;rw [e1] at hlk;refine ⟨_,rfl,Y3 m,hc',Y8,hlk,λ_=> ?_,λh=>(by cases h)⟩;have hd:decide (s≠emp/\s ∉ l)=Y6:=by
   rw [decide_eq_false_iff_not];rintro ⟨h1,h2⟩;rcases hs with h|h
   ·exact h1 h
   ·exact h2 h
  refine ⟨G,by rw [hd],am G,?_⟩;have:bG m (s::l)=bG m l:=by
   unfold bG;funext H
   rw [show gZ (s::l)=gZ l from funext λk=>by
    rw [hin];by_cases e:k=s
    ·rw [Χ e,e,e1]
    ·rw [Υ e]]
  rw [this];exact h
 ·have e1:gZ l s=Y5:=Υ hs;rw [e1] at hlk;refine ⟨_,rfl,Y3 m,hc',Y6,hlk,λh=>(by cases h),λ_=>⟨Y3 m,hc',?_⟩⟩;refine aV N8 ho hmo s (Za Y8) λo' ho'=> ?_;have hd:decide (s≠emp/\s ∉ l)=Y8:=by rw [δ];exact ⟨λe=>hs (.inl e),λe=>hs (.inr e)⟩
  refine ⟨G,by rw [hd],am G,h.mapSet ?_⟩;rw [show gZ (s::l)=_ from funext hin];exact ho'
theorem QB:aC prog 179=Y8:=by kernel_rfl
def gp (b:Nat):Prop:=(97<=b/\b<=122)\/(65<=b/\b<=90)\/b=95
def iC (b:Nat):Prop:=48<=b/\b<=57
instance (b:Nat):Decidable (gp b):=inferInstanceAs (Decidable (_\/_))
instance (b:Nat):Decidable (iC b):=inferInstanceAs (Decidable (_/\_))
def vA (l:Δ):Bool:=(List.range l.length).all (λi=>decide (gp (l.getD i 0)) || (i !=0 && decide (iC (l.getD i 0)))) && !l.isEmpty
def ju (s:ο):Bool:=vA (bs s)
theorem FF (s:ο) (i:Nat) (h:i<s.size):(s[i]'h).toNat=(bs s).getD i 0:=by rw [<- He];unfold cb;rw [dif_pos h]
theorem oQ {F:PH} (s:ο) (hs:s.size<=1000000000):ν 142 #[Zg s] F λr F'=>r=Za (ju s)/\F.le F':=by
 refine Si ?_;unfold MB;have hlen:=cU s;refine bh (wj · s _) s.size (λk F'=>F.le F'/\∀i,i<k->(gp ((bs s).getD i 0)\/(i≠0/\iC ((bs s).getD i 0)))) ⟨am F,λi h=>by omega⟩ ?_;rintro k F1 N hk ⟨hl,hi⟩ next;unfold wj;refine ⟨λhlt=> ?_,λhge=> ?_⟩
 ·have hlt:k<s.size:=by omega
  refine ⟨by omega,by omega,by simpa using hlt,((bs s).getD k 0:Nat),?_,?_⟩
  ·rw [<- FF s k hlt];rfl
  generalize hc:(bs s).getD k 0=c;have bad:¬(gp c\/(k≠0/\iC c))->Za Y6=Za (ju s)/\F.le F1:=λhn=>by
   refine ⟨?_,hl⟩;have:ju s=Y6:=by unfold ju vA;rw [Bool.and_eq_false_iff];refine .inl ?_;rw [List.all_eq_false];refine ⟨k,XN.2 (by omega),?_⟩;rw [hc];simp only [XU,δ,XJ,bne_iff_ne,ne_eq];exact hn
   rw [this]
  have good:(gp c\/(k≠0/\iC c))->pJ N s (k:Int) (λr F'=>r=Za (ju s)/\F.le F') F1:=λhg=>by
   unfold pJ;rw [aA hlt];refine next _ hlt ⟨hl,λi hi'=> ?_⟩;by_cases e:i=k
   ·rw [e,hc];exact hg
   ·exact hi i (by omega)
  have j3:∀t:Bool,(t=Y8↔gp c)->fV N s (k:Int) (c:Int) t (λr F'=>r=Za (ju s)/\F.le F') F1:=λt ht=>by
   unfold fV;refine ⟨λh=> ?_,λh=>good (.inl (ht.1 (by simpa using h)))⟩;have hnl:¬gp c:=λhl'=>by rw [ht.2 hl'] at h;cases h
   refine ⟨λh0=>bad ?_,λh0=>⟨λh1=>bad ?_,λh1=>⟨λh2=>bad ?_,λh2=>good ?_⟩⟩⟩
   ·rintro (h|h)
    ·exact hnl h
    ·omega
   ·rintro (h|h)
    ·exact hnl h
    ·unfold iC at h;omega
   ·rintro (h|h)
    ·exact hnl h
    ·unfold iC at h;omega
   ·exact .inr ⟨by omega,by unfold iC;omega⟩
  refine ⟨λh1=>⟨λh2=>j3 _ ⟨λ_=>by unfold gp;omega,λ_=>rfl⟩,λh2=>⟨λh3=>⟨λh4=>j3 _ ⟨λ_=>by unfold gp;omega,λ_=>rfl⟩,λh4=>j3 _ ?_⟩,λh3=>j3 _ ?_⟩⟩,
   λh1=>⟨λh3=>⟨λh4=>j3 _ ⟨λ_=>by unfold gp;omega,λ_=>rfl⟩,λh4=>j3 _ ?_⟩,λh3=>j3 _ ?_⟩⟩
  all_goals (rw [δ];unfold gp;omega)
 ·have e:k=s.size:=by omega
  subst e;unfold Cg;refine ⟨?_,hl⟩;congr 1;rw [gY];unfold ju vA;have h1:(List.range (bs s).length).all (λi=>decide (gp ((bs s).getD i 0)) || (i !=0 && decide (iC ((bs s).getD i 0))))=Y8:=by rw [XD];intro i hi';rw [hlen] at hi';have:=hi i (XN.1 hi');simp only [XU,δ,XJ,bne_iff_ne,ne_eq];exact this
  rw [h1,Yp,Xc];simp only [Ye,decide_eq_false_iff_not,List.isEmpty_eq_false_iff];refine not_congr ⟨λe=>by rw [e];rfl,λe=>wE (e.trans rfl)⟩
section
variable {α:Type} [Mem α] {F:PH}
def N9 (n:Nat) (j:Ω) (f:Sl) (i:ξ) (R:VR) (a:Int) (F:PH):Prop:=((a<(f.len:Int)-> ∃g:Addr,f.YZ=Y3 g/\0<=a/\a<(f.len:Int)/\∃b:Γ,b.size=n/\F.row (Zb g (Zd a*n)) b/\∃(h:Nat) (c d:Γ),i=.func (.func h) c d/\aC prog h=Y8/\ai prog h (c++([Y9 b]).toArray++d) F λv F=>∃e:Bool,v=(Za e)/\((e=Y8-> R (Zf .i64 a) F)/\(e=Y6-> j (i64.wrap (a+(1:Int))) F)))/\(¬(a<(f.len:Int))-> R (Zf .i64 (-1:Int)) F))
def VD (n:Nat) (d:Sl) (e:ξ) (R:VR) (F:PH):Prop:=(∃(f:Nat->Ω) (c:Nat),f c (0:Int) F/\∀c a F,f c a F-> N9 n (λb F=>∃g,g<c/\f g b F) d e R a F)
theorem zC {s:Sl} {l:List α} (hs:RL F s l) (hn:0<Mem.n α) (hl:l.length<=1000000000) {k:Nat} {fst cap:Γ} (hk:aC prog k=Y8) (p:α->Bool)
  (hf:∀x∈l,∀c F1,F.le F1->Mem.rep F1 x c->ai prog k (fst++([Y9 c]).toArray++cap) F1 λr F'=>r=Za (p x)/\F1.le F'):
  VD (Mem.n α) s (.func (.func k) fst cap) (λr F'=>∃i,r=vi i/\(0<=i↔l.any p=Y8)/\F.le F') F:=by
 have hlen:=hs.len hn;refine bh (N9 (Mem.n α) · s (.func (.func k) fst cap) _) l.length (λk F'=>F.le F'/\(l.take k).any p=Y6) ⟨am F,by simp⟩ ?_;rintro i F1 N hi ⟨hle,hany⟩ next;unfold N9;refine ⟨λhlt=> ?_,λhge=> ?_⟩
 ·have hlt:i<l.length:=by omega
  obtain ⟨a,c,ha,hr,hc⟩:=(hs.le hle).get hn (N5 hlt);refine ⟨a,ha,by omega,by omega,c,Mem.len hc,by rw [N4];exact hr,k,fst,cap,rfl,hk,?_⟩;refine (hf _ (X2 hlt) c F1 hle hc).mono ?_;rintro _ F2 ⟨rfl,l2⟩;refine ⟨_,rfl,λh=> ?_,λh=> ?_⟩
  ·exact ⟨_,rfl,⟨λ_=>X5.2 ⟨_,X2 hlt,h⟩,λ_=>by omega⟩,aa hle l2⟩
  ·rw [aA hlt];refine next _ hlt ⟨aa hle l2,?_⟩;rw [Xr hlt,List.any_append,hany];simp [h]
 ·have e:i=l.length:=by omega
  subst e;rw [Xg] at hany;exact ⟨_,rfl,⟨λh=>by omega,λh=>by rw [hany] at h;cases h⟩,hle⟩
end
theorem ixc {α:Type} [Mem α] {F:PH} {s:Sl} {l:List α} (h:RL F s l) (hn:0<Mem.n α) {i:Int} (h0:0<=i) (h1:i<(s.len:Int)) {K:Addr->Prop}
  (k:∀a c x,l[i.toNat]? =Y3 x->F.row (a.add (i.toNat*Mem.n α)) c->Mem.rep F x c->K a):∃a,s.YZ=Y3 a/\0<=i/\i<(s.len:Int)/\K a:=by
 have hlen:=h.len hn;have hlt:i.toNat<l.length:=by omega
 obtain ⟨a,c,ha,hr,hc⟩:=h.get hn (N5 hlt);exact ⟨a,ha,h0,h1,k a c _ (N5 hlt) hr hc⟩
def iD (d:Dia) (n:Nat):Prop:=chk d=0/\∀b∈d.1,b.v<n
open Classical in
def qQ (d:Dia) (n:Nat):Bool:=decide (iD d n)
theorem bD {d:Dia} {n:Nat}:qQ d n=Y8↔iD d n:=by unfold qQ;simp
theorem vC {d:Dia} {n:Nat}:qQ d n=Y6↔¬iD d n:=by unfold qQ;simp
theorem QC:aC prog 181=Y8:=by kernel_rfl
theorem g0 {F:PH} {v:Γ} {d:Dia} {n:Nat} (hd:DV F v d):ν 143 #[Y9 v,vi n] F λr F'=>r=Za (qQ d n)/\F.le F':=by
 obtain ⟨s,rfl,hr⟩:=hd;refine Sj ?_;unfold MC;refine fresh λb2 F1 l1 q1 _=> ?_;refine fresh λb3 F2 l2 q2 _=> ?_;have q1:=l2 _ _ q1;have hr:=hr.le (aa l1 l2);have l1:=aa l1 l2;refine ⟨_,rfl,ac q1,?_⟩;refine (rY (d:=d) ⟨s,rfl,hr⟩).mono ?_;rintro _ F3 ⟨rfl,l3⟩;refine ⟨_,rfl,λh=>⟨?_,aa l1 l3⟩,λh=> ?_⟩
 ·have:qQ d n=Y6:=vC.2 λhg=>h hg.1;rw [this]
 ·have h:chk d=0:=Classical.not_not.1 h;have hle:d.1.length<=4096:=by apply Classical.byContradiction;intro hb;unfold chk at h;rw [Χ (by omega)] at h;omega
  refine ⟨_,ld (l3 _ _ q1) rfl,?_⟩;refine TB ?_;unfold M5;have hs:RL F3 s d.1:=(RL.brs.2 hr).le l3
  refine (show ν 201 #[s.v,.func (.func 181) #[] #[Ze (Y3 ⟨b3,0,Y5⟩)]] F3 (λr F'=>∃i,r=vi i/\(0<=i↔d.1.any (λb=>decide ((n:Int)<=b.v))=Y8)/\F3.le F')
   from TG (zC hs (by decide) (by omega) QC (λb=>decide ((n:Int)<=b.v)) λx hx c F4 l4 hc=> ?_)).mono ?_
  ·rw [show c=aZ x from hc];refine Sw ?_;unfold MM;refine fresh λb F5 l5 q5 _=> ?_;exact ⟨_,ld q5 rfl,_,rfl,_,ld (l5 _ _ (l4 _ _ (l3 _ _ q2))) rfl,rfl,l5⟩
  ·rintro _ F4 ⟨i,rfl,hi,l4⟩;refine ⟨_,rfl,_,rfl,?_,aa l1 (aa l3 l4)⟩;congr 1;rw [Xc,bD];simp only [Ye,decide_eq_false_iff_not];rw [hi,X5];constructor
   ·intro hn;refine ⟨h,λb hb=>Int.not_le.1 λhb'=>hn ⟨b,hb,by simpa using hb'⟩⟩
   ·rintro ⟨_,hb⟩ ⟨b,hb1,hb2⟩;have:=hb b hb1;simp at hb2;omega
def bM (g:Gr):Bool:=decide (64<g.YY.length\/256<g.YX.length\/4096<g.fils.length\/2000<g.YW.length\/2000<g.YV.length\/2000<g.lvs.length) || g.YV.any λp=>decide (16<p.right.length\/16<p.lay.length)
theorem Ju:aC prog 140=Y8:=by kernel_rfl
theorem zE {F:PH} {v:Γ} {g:Gr} (hg:GV F v g):ν 88 #[Y9 v] F λr F'=>r=Za (bM g)/\F.le F':=by
 obtain ⟨c,n,t,s,p,l,f,rfl,hs⟩:=hg;refine V7 ?_;unfold R7;refine fresh λb1 F1 l1 q1 _=> ?_;have e1:=hs.c.len;have e2:=hs.t.len;have e3:=hs.s.len;have e4:=hs.p.len;have e5:=hs.l.len;have e6:=hs.f.len;have bad:(64<g.YY.length\/256<g.YX.length\/4096<g.fils.length\/2000<g.YW.length\/2000<g.YV.length\/2000<g.lvs.length)->(Za Y8=Za (bM g)/\F.le F1):=λh=>by refine ⟨?_,l1⟩;unfold bM;rw [ζ h,Bool.true_or]
 refine ⟨_,ld q1 rfl,λh=>bad (by omega),λh1=>⟨_,ld q1 rfl,λh=>bad (by omega),λh2=>⟨_,ld q1 rfl,λh=>bad (by omega),λh3=>⟨_,ld q1 rfl,_,ld q1 rfl,_,ld q1 rfl,λh=>bad (by omega),λh4=>⟨_,ld q1 rfl,?_⟩⟩⟩⟩⟩;refine Tx ?_;unfold M3
 refine (show ν 178 #[p.v,.func (.func 140) #[] #[]] F1 (λr F'=>∃i,r=vi i/\(0<=i↔g.YV.any (λp=>decide (16<p.right.length\/16<p.lay.length))=Y8)/\F1.le F')
  from TA (zC (hs.p.le l1) (by decide) (by omega) Ju (λp=>decide (16<p.right.length\/16<p.lay.length)) λx hx c F4 l4 hc=> ?_)).mono ?_
 ·obtain ⟨r,n',l',rfl,h1,h2,h3⟩:=hc;refine Sf ?_;unfold Mz;refine fresh λb F5 l5 q5 _=> ?_;have e1:=h1.len;have e2:=h3.len;refine ⟨_,ld q5 rfl,_,ld q5 rfl,?_,l5⟩;congr 1;rw [Xc];simp only [δ];omega
 ·rintro _ F4 ⟨i,rfl,hi,l4⟩;refine ⟨_,rfl,_,rfl,?_,aa l1 l4⟩;congr 1;unfold bM;have hno:¬(64<g.YY.length\/256<g.YX.length\/4096<g.fils.length\/2000<g.YW.length\/2000<g.YV.length\/2000<g.lvs.length):=by omega
  rw [ι hno,YM,Xc,δ];exact hi
structure Sz (g:Gr):Prop where
 c:∀s∈g.YY,s.size<=1000000000
 t:∀t∈g.YX,t.smp.size<=100000
 l:∀l∈g.lvs,l.ps.length<=1000000000
 f:∀f∈g.fils,f.YX.length<=1000000000
def bv (l:List ο):Prop:=l.Nodup/\emp ∉ l
theorem cH {l:List ο} {s:ο}:bv (l++[s])↔bv l/\s≠emp/\s ∉ l:=by
 unfold bv;rw [Xv];simp only [W9,W5,not_or];constructor
 ·rintro ⟨⟨h1,_,h2⟩,h3,h4⟩;exact ⟨⟨h1,h3⟩,λe=>h4 e.symm,λhm=>h2 s hm s rfl rfl⟩
 ·rintro ⟨⟨h1,h2⟩,h3,h4⟩;exact ⟨⟨h1,by simp,λa ha b hb e=>h4 (by rw [<- hb,<- e];exact ha)⟩,h2,λe=>h3 e.symm⟩
theorem fR {l:List ο} (h:bv l) (k:Nat):bv (l.take k):=⟨h.1.sublist (List.take_sublist k l),λhm=>h.2 (Yc hm)⟩
theorem aO {α:Type} {l:List α} {k:Nat} {x:α} (h:l[k]? =Y3 x):l.take (k+1)=l.take k++[x]:=by obtain ⟨hk,rfl⟩:=N6.1 h;exact Xr hk
theorem pf {G F:PH} {As:List (Ψ)} {b m:Nat} {l:List ο} (h:St G F (bG m l.reverse::As)) (hc:G.cell ⟨b,0,Y5⟩=Y3 (.map (Y3 m))) (s:ο) {R:VR}
  (k:∀G' F',G.le G'->St G' F' (bG m (l++[s]).reverse::As)->R (Za (decide (s≠emp/\s ∉ l))) F'):
  ∃(k28:Nat) (fst28 cap28:Γ),xK b=.func (.func k28) fst28 cap28/\aC prog k28=Y8/\ai prog k28 (fst28++([(Zg s)]).toArray++cap28) F R:=by
 refine ⟨_,_,_,rfl,QB,?_⟩;have sp:=St.callL (Bs:=[bG m l.reverse]) (Cs:=As) (Bs':=λ_ _=>[bG m (s::l.reverse)]) (P:=λr _=>r=Za (decide (s≠emp/\s ∉ l.reverse))) h λF1 h1=>(zB h1 hc s).mono λr F' ⟨G',hr,hl,hst⟩=>⟨G',hr,hl,hst⟩;refine sp.mono ?_;rintro r F' ⟨G',rfl,hl,hst⟩;have:=k G' F' hl (by rw [List.reverse_append];exact hst);rw [show decide (s≠emp/\s ∉ l.reverse)=decide (s≠emp/\s ∉ l) by simp];exact this
def QD:ο:=ByteArray.mk #[116,114,117,101]
def Oa:ο:=ByteArray.mk #[102,97,108,115,101]
def nj (s:ο):Prop:=ju s=Y8/\s≠QD/\s≠Oa
def gc (g:Gr):Prop:=(∀s∈g.YY,nj s)/\bv g.YY/\iD g.fam g.YY.length/\g.fam.2≠0
open Classical in
theorem nk {F:PH} {v:Γ} {g:Gr} (hg:GV F v g) (hz:Sz g) (hl:g.YY.length<=64):ν 89 #[Y9 v] F λr F'=>r=vi (if gc g then 0 else 54)/\F.le F':=by
 obtain ⟨c,n,t,s,p,l,f,rfl,hs⟩:=hg;have ec:=hs.c.len;refine V8 ?_;unfold R8;refine fresh λb1 F1 l1 q1 _=> ?_;have hs:=hs.le l1;refine (iB F1).mono ?_;rintro _ F2 ⟨G2,bn,m,rfl,l2,hcn,h⟩;refine ⟨_,rfl,_,ld (h.le _ _ (l2 _ _ q1)) rfl,?_⟩;have bad:∀{F'},F1.le F'->¬gc g->(vi 54=vi (if gc g then 0 else 54)/\F.le F'):=λ{F'} l hn=>⟨by rw [Υ hn],aa l1 l⟩;refine bh (zY · b1 (xK bn) c _) g.YY.length (λk F'=>∃G,G2.le G/\St G F' [bG m (g.YY.take k).reverse]/\(∀s∈g.YY.take k,nj s)/\bv (g.YY.take k))
  ⟨G2,am _,h,by simp,by simp [bv]⟩ ?_
 rintro k F3 N hk ⟨G3,l3,h,hi,hi2⟩ next;have l13:=aa l2 l3;unfold zY;refine ⟨λhlt=> ?_,λhge=> ?_⟩
 ·have hlt:k<g.YY.length:=by omega
  refine ixc ((hs.c.le l13).le h.le) (by decide) (by omega) (by omega) λa cc x hx hr hc=> ?_;rw [N4] at hx hr;rw [show cc= #[Zg x] from hc] at hr;have hxm:x∈g.YY:=W7 hx;refine ⟨_,aQ hr rfl,?_⟩;refine h.runv (oQ x (hz.c x hxm)) λG4 F4 l4 h=>⟨_,rfl,λhb=> ?_,λhb=>⟨λhb2=> ?_,λhb2=>⟨λhb3=> ?_,λhb3=> ?_⟩⟩⟩
  ·exact bad (aa l13 (aa l4 h.le)) λhn=>by rw [(hn.1 x hxm).1] at hb;cases hb
  ·exact bad (aa l13 (aa l4 h.le)) λhn=>(hn.1 x hxm).2.1 (by rw [gY] at hb2;exact ε hb2)
  ·exact bad (aa l13 (aa l4 h.le)) λhn=>(hn.1 x hxm).2.2 (by rw [gY] at hb3;exact ε hb3)
  ·refine pf h (aI (aa l3 l4) hcn) x λG5 F5 l5 h=> ?_;have l15:=aa l13 (aa l4 l5);refine ⟨_,rfl,λhb4=> ?_,λhb4=> ?_⟩
   ·refine bad (aa l15 h.le) λhn=> ?_;have:=fR hn.2.1 (k+1);rw [aO hx,cH] at this;rw [ζ this.2] at hb4;cases hb4
   ·rw [aA hlt];have hb4:x≠emp/\x ∉ g.YY.take k:=by simpa using hb4
    rw [<- aO hx] at h;refine next _ hlt ⟨G5,aa l3 (aa l4 l5),h,λs hs=> ?_,?_⟩
    ·rw [aO hx] at hs;rcases W9.1 hs with hs|hs
     ·exact hi s hs
     ·rw [W5.1 hs];rw [gY] at hb2 hb3;exact ⟨by simpa using hb,η hb2,η hb3⟩
    ·rw [aO hx,cH];exact ⟨hi2,hb4⟩
 ·have e:k=g.YY.length:=by omega
  subst e;rw [Xg] at hi hi2;unfold FY;refine ⟨#[n.v,vi g.fam.2],rfl,je (h.le _ _ (l13 _ _ q1)) rfl,_,ld (h.le _ _ (l13 _ _ q1)) rfl,?_⟩;dsimp only;rw [ec];refine h.runv (g0 (d:=g.fam) (DV.mk (hs.n.le l13))) λG4 F4 l4 h=>⟨_,rfl,λhb=> ?_,λhb=> ?_⟩
  ·refine bad (aa l13 (aa l4 h.le)) λhn=> ?_;have:qQ g.fam g.YY.length=Y8:=bD.2 hn.2.2.1;rw [this] at hb;cases hb
  ·refine ⟨_,ld (h.le _ _ (l4 _ _ (l13 _ _ q1))) rfl,λh0=> ?_,λh0=> ?_⟩
   ·exact bad (aa l13 (aa l4 h.le)) λhn=>hn.2.2.2 h0
   ·refine ⟨?_,aa l1 (aa l13 (aa l4 h.le))⟩;rw [Χ ⟨hi,hi2,bD.1 (by simpa using hb),h0⟩]
def eW (g:Gr):Prop:=bv g.YW/\0<=g.start/\g.start<g.YW.length
open Classical in
theorem qR {F:PH} {v:Γ} {g:Gr} (hg:GV F v g) (hl:g.YW.length<=2000):ν 91 #[Y9 v] F λr F'=>r=vi (if eW g then 0 else 50)/\F.le F':=by
 obtain ⟨c,n,t,s,p,l,f,rfl,hs⟩:=hg;have es:=hs.s.len;refine Wa ?_;unfold Sa;refine fresh λb1 F1 l1 q1 _=> ?_;have hs:=hs.le l1;refine (iB F1).mono ?_;rintro _ F2 ⟨G2,bn,m,rfl,l2,hcn,h⟩;refine ⟨_,rfl,_,ld (h.le _ _ (l2 _ _ q1)) rfl,?_⟩;have bad:∀{F'},F1.le F'->¬eW g->(vi 50=vi (if eW g then 0 else 50)/\F.le F'):=λ{F'} l hn=>⟨by rw [Υ hn],aa l1 l⟩;refine bh (z6 · b1 (xK bn) s _) g.YW.length (λk F'=>∃G,G2.le G/\St G F' [bG m (g.YW.take k).reverse]/\bv (g.YW.take k))
  ⟨G2,am _,h,by simp [bv]⟩ ?_
 rintro k F3 N hk ⟨G3,l3,h,hi2⟩ next;have l13:=aa l2 l3;unfold z6;refine ⟨λhlt=> ?_,λhge=> ?_⟩
 ·have hlt:k<g.YW.length:=by omega
  refine ixc ((hs.s.le l13).le h.le) (by decide) (by omega) (by omega) λa cc x hx hr hc=> ?_;rw [N4] at hx hr;rw [show cc= #[Zg x] from hc] at hr;refine ⟨_,aQ hr rfl,?_⟩;refine pf h (aI l3 hcn) x λG5 F5 l5 h=> ?_;have l15:=aa l13 l5;refine ⟨_,rfl,λhb4=> ?_,λhb4=> ?_⟩
  ·refine bad (aa l15 h.le) λhn=> ?_;have:=fR hn.1 (k+1);rw [aO hx,cH] at this;rw [ζ this.2] at hb4;cases hb4
  ·rw [aA hlt];have hb4:x≠emp/\x ∉ g.YW.take k:=by simpa using hb4
   rw [<- aO hx] at h;refine next _ hlt ⟨G5,aa l3 l5,h,?_⟩;rw [aO hx,cH];exact ⟨hi2,hb4⟩
 ·have e:k=g.YW.length:=by omega
  subst e;rw [Xg] at hi2;unfold Ga;have q:=h.le _ _ (l13 _ _ q1);refine ⟨_,ld q rfl,λh0=>bad (aa l13 h.le) λhn=>by have:=hn.2.1;omega,λh0=>⟨_,ld q rfl,_,ld q rfl,λh1=>bad (aa l13 h.le) λhn=>by have:=hn.2.2;omega,λh1=>⟨?_,aa l1 (aa l13 h.le)⟩⟩⟩;rw [Χ ⟨hi2,by omega,by omega⟩]
inductive Scl:TypeId->Value->Value->Bool->Prop
 |int {t:TypeId} {k:IntKind} {a b:Int}:prog.underlying t=Y3 (.int k)->Scl t (.int k a) (.int k b) (decide (a=b))
 |bool {t:TypeId} {a b:Bool}:prog.underlying t=Y3 .bool->Scl t (.bool a) (.bool b) (decide (a=b))
 |str {t:TypeId} {a b:ο}:prog.underlying t=Y3 .string->Scl t (.string a) (.string b) (decide (a=b))
theorem Scl.eq {t:TypeId} {v w:ξ} {r:Bool} (h:Scl t v w r) (d:Nat) (F:PH):rdo prog (Op.equalIn (d+1) t v w) F r:=by
 cases h with
 | @int k a b ht=>exact Cp t k ht d a b
 | @bool a b ht=>simp only [Op.equalIn,aj];refine ⟨_,(av ht _).2 rfl,?_⟩;show (a==b)=decide (a=b);cases a<;>cases b<;>rfl
 | @str a b ht=>simp only [Op.equalIn,aj];refine ⟨_,(av ht _).2 rfl,?_⟩;show (a==b)=decide (a=b);rw [Xc];simp
theorem Scl.part {t:TypeId} {v w:ξ} {r:Bool} (h:Scl t v w r) {cs:Γ} {off:Nat} {x:ξ} (hx:cs[off]? =Y3 x) (F:PH):rdo prog (part t cs off) F x:=by
 have ha:∀d,prog.underlying t=Y3 d->((∃k,d=.int k)\/d=.bool\/d=.string)->rdo prog (Go.part t cs off) F x:=λd hd hk=>by unfold Go.part;simp only [aj];refine ⟨Y6,(dK hd _).2 (by rcases hk with ⟨k,rfl⟩|rfl|rfl<;>rfl),?_⟩;simp only [XE,if_false,hx];rfl
 cases h with
 | @int k a b ht=>exact ha _ ht (.inl ⟨k,rfl⟩)
 | @bool a b ht=>exact ha _ ht (.inr (.inl rfl))
 | @str a b ht=>exact ha _ ht (.inr (.inr rfl))
theorem xL {t:TypeId} {fs:Array Field} (ht:prog.underlying t=Y3 (.struct fs)) (hsi:prog.stoodInHeld t=Y6) {cs ds:Γ} (e:Field->Bool)
  (hall:∀f∈fs.toList,f.name≠ "_"/\∃v w,cs[f.offset]? =Y3 v/\ds[f.offset]? =Y3 w/\Scl f.type v w (e f)) (F:PH):
  rdo prog (Op.equal t (Y9 cs) (Y9 ds)) F (fs.toList.all e):=by
 unfold Op.equal Op.maxDepth;show rdo prog (Op.equalIn (9998+1+1) t _ _) _ _;unfold Op.equalIn;simp only [aj];refine ⟨_,(av ht _).2 rfl,?_⟩;dsimp only;rw [aj];refine ⟨prog,rfl,?_⟩;rw [hsi];simp only [XE,if_false];rw [<- Array.forIn_toList,aj];refine ⟨_,Ae _ e _ λf hf=> ?_,?_⟩
 ·obtain ⟨h1,v,w,h2,h3,h4⟩:=hall f hf;rw [Χ h1];simp only [aj];refine ⟨_,h4.part h2 F,_,h4.part h3 F,_,h4.eq 9998 F,?_⟩;cases e f<;>rfl
 ·cases fs.toList.all e<;>rfl
theorem QE (x y:Sy) (F:PH):rdo prog (Op.equal 63 (Y9 x.arr) (Y9 y.arr)) F (decide (x=y)):=by
 have h:=xL (t:=63) underlying63 (by kernel_rfl) (cs:=x.arr) (ds:=y.arr) (λf=>if f.offset=0 then decide (x.t=y.t) else decide (x.i=y.i)) (λf hf=>by
  simp only [W6,X6,or_false] at hf;rcases hf with rfl|rfl
  ·exact ⟨by decide,_,_,rfl,rfl,.bool underlying4⟩
  ·exact ⟨by decide,_,_,rfl,rfl,.int underlying3⟩) F
 refine cast ?_ h;congr 1;cases x;cases y;rw [Xc];simp [Sy.mk.injEq]
abbrev Sco.arr (s:Sco):Γ:= #[Za s.o,vi s.d,vi s.k,vi s.u,vi s.a]
theorem LF (x y:Sco) (F:PH):rdo prog (Op.equal 53 (Y9 x.arr) (Y9 y.arr)) F (decide (x=y)):=by
 have h:=xL (t:=53) underlying53 (by kernel_rfl) (cs:=x.arr) (ds:=y.arr)
  (λf=>if f.offset=0 then decide (x.o=y.o) else if f.offset=1 then decide (x.d=y.d) else if f.offset=2 then decide (x.k=y.k) else if f.offset=3 then decide (x.u=y.u) else decide (x.a=y.a)) (λf hf=>by
  simp only [W6,X6,or_false] at hf;rcases hf with rfl|rfl|rfl|rfl|rfl
  ·exact ⟨by decide,_,_,rfl,rfl,.bool underlying4⟩
  all_goals exact ⟨by decide,_,_,rfl,rfl,.int underlying3⟩) F
 refine cast ?_ h;congr 1;cases x;cases y;rw [Xc];simp [Sco.mk.injEq]
def kj (g:Gr) (s:Sy):Prop:=0<=s.i/\(s.t=Y6->s.i<g.YW.length)/\(s.t=Y8->∃t,g.YX[s.i.toNat]? =Y3 t/\t.cls=0)
instance (g:Gr) (s:Sy):Decidable (kj g s):=by
 have:Decidable (∃t,g.YX[s.i.toNat]? =Y3 t/\t.cls=0):=by
  cases h:g.YX[s.i.toNat]? with
  |none=>exact isFalse λ⟨t,h1,_⟩=>by cases h1
  |some t=>exact decidable_of_iff (t.cls=0) ⟨λe=>⟨t,rfl,e⟩,λ⟨u,h1,h2⟩=>by cases h1;exact h2⟩
 unfold kj;exact inferInstance
theorem xM {F:PH} {v:Γ} {g:Gr} (hg:GV F v g) (x:Sy):ν 147 #[Y9 v,Y9 x.arr] F λr F'=>r=Za (decide (kj g x))/\F.le F':=by
 obtain ⟨c,n,t,s,p,l,f,rfl,hs⟩:=hg;refine Sn ?_;unfold ME;refine fresh λb2 F1 l1 q1 _=> ?_;refine fresh λb3 F2 l2 q2 _=> ?_;have q1:=l2 _ _ q1;have l1:=aa l1 l2;have es:=hs.s.len;have et:=hs.t.len;obtain ⟨xt,xi⟩:=x;have no:¬kj g ⟨xt,xi⟩->(Za Y6=Za (decide (kj g ⟨xt,xi⟩))/\F.le F2):=λh=>⟨by rw [ι h],l1⟩;refine ⟨_,ld q2 rfl,λh=>⟨_,ld q2 rfl,λh0=>⟨_,ld q2 rfl,_,ld q1 rfl,?_,l1⟩,λh0=>no λhp=>h0 hp.1⟩,λh=>⟨_,ld q2 rfl,λh0=>⟨_,ld q2 rfl,_,ld q1 rfl,λh1=>⟨_,ld q1 rfl,_,ld q2 rfl,?_⟩,λh1=>no λhp=> ?_⟩,λh0=>no λhp=>h0 hp.1⟩⟩
 ·have h:xt=Y6:=by simpa using h
  subst h;congr 1;rw [Xc,decide_eq_true_eq,decide_eq_true_eq];exact ⟨λh1=>⟨h0,λ_=>by dsimp only at h1 ⊢;omega,λh=>(by cases h)⟩,λhp=>by have:=hp.2.1 rfl;dsimp only at this ⊢;omega⟩
 ·have h:xt=Y8:=by simpa using h
  subst h;refine ixc (hs.t.le l1) (by decide) h0 h1 λa cc y hy hr hc=> ?_;obtain ⟨pp,nn,rfl,_,_⟩:=hc;refine ⟨_,bj hr rfl,?_,l1⟩;congr 1;rw [Xc,δ,δ]
  exact ⟨λh1=>⟨h0,λh=>(by cases h),λ_=>⟨y,hy,h1⟩⟩,λhp=>by
   obtain ⟨z,hz,h2⟩:=hp.2.2 rfl;rw [hy] at hz;cases hz
   exact h2⟩
 ·have h:xt=Y8:=by simpa using h
  subst h;obtain ⟨z,hz,_⟩:=hp.2.2 rfl;have:=(N6.1 hz).1;dsimp only at this h1;omega
def cS (r:List Sy) (k v lo hi:Int):Prop:=(k=0/\v=0)\/(0<k/\k<=r.length/\(∃s,r[(k - 1).toNat]? =Y3 s/\s.t=Y8)/\lo<=v/\v<=hi)
def ly (r:List Sy) (x:Cn):Prop:=1<=x.k/\x.k<=4/\0<=x.a/\x.a<r.length/\0<=x.b/\x.b<r.length/\(x.k=1->x.b=0)
def qS:Sco:=⟨Y6,0,0,0,0⟩
def xN (p:Pr):Prop:=p.right.length=3/\p.rank=0/\p.lay=[]/\p.sco=qS/\(∃s,p.right[0]? =Y3 s/\s.t=Y8)/\p.right[1]? =Y3 ⟨Y6,p.left⟩/\(∃s,p.right[2]? =Y3 s/\s.t=Y8)
def nq (p:Pr):Prop:=(∀x∈p.lay,ly p.right x)/\cS p.right p.sco.d p.sco.k 1 7/\cS p.right p.sco.u p.sco.a 0 255/\(p.brk=Y8->xN p)
open Classical in
theorem qT {F:PH} {b:Nat} {x:Pr} {r n l:Sl} (hr:RL F r x.right) (q:F b=Y3 (Y4 (x.arr r n l) 55)) (k v lo hi:Int) (hk:x.right.length<=16):
  ν 189 #[vi k,vi v,vi lo,vi hi,Ze (Y3 ⟨b,0,Y5⟩)] F λres F'=>res=Za (decide (cS x.right k v lo hi))/\F.le F':=by
 refine SC ?_;unfold MO;have er:=hr.len;have no:¬cS x.right k v lo hi->(Za Y6=Za (decide (cS x.right k v lo hi))/\F.le F):=λh=>⟨by rw [ι h],am F⟩;have hcell:F.cell (Zb (Zc b 0 Y5) 2)=Y3 r.v:=by rw [aE];exact ld q rfl
 refine ⟨λh0=>⟨?_,am F⟩,λh0=>⟨λh1=>⟨_,rfl,_,hcell,λh2=>⟨_,hcell,?_⟩,λh2=>no ?_⟩,λh1=>no ?_⟩⟩
 ·congr 1;rw [Xc,δ,δ];exact ⟨λh=> .inl ⟨h0,h⟩,λh=>h.elim (λh=>h.2) λh=>by omega⟩
 ·have ew:i64.wrap (k - 1)=k - 1:=aP (by omega);rw [ew];refine ixc hr (by decide) (by omega) (by omega) λa c s hs hrow hc=> ?_;rw [show c=s.arr from hc] at hrow;refine ⟨_,aQ hrow rfl,λht=>⟨λh3=>⟨?_,am F⟩,λh3=>no ?_⟩,λht=>no ?_⟩
  ·congr 1;rw [Xc,δ,δ];exact ⟨λh=> .inr ⟨h1,by omega,⟨s,hs,ht⟩,h3,h⟩,λh=>h.elim (λh=>by omega) λh=>h.2.2.2.2⟩
  ·rintro (h|h)
   ·omega
   ·exact h3 h.2.2.2.1
  ·rintro (h|h)
   ·omega
   ·obtain ⟨s',hs',ht'⟩:=h.2.2.1;rw [hs] at hs';cases hs';rw [ht] at ht';cases ht'
 ·rintro (h|h)
  ·omega
  ·omega
 ·rintro (h|h)
  ·omega
  ·omega
theorem qU {F:PH} {b:Nat} {x:Pr} {r n l:Sl} (hr:RL F r x.right) (q:F b=Y3 (Y4 (x.arr r n l) 55)) (i:Int):
  ν 188 #[vi i,Ze (Y3 ⟨b,0,Y5⟩)] F λres F'=>res=Za (decide (0<=i/\i<x.right.length))/\F.le F':=by
 refine SA ?_;unfold MN;have er:=hr.len;have hcell:F.cell (Zb (Zc b 0 Y5) 2)=Y3 r.v:=by rw [aE];exact ld q rfl
 refine ⟨λh=>⟨_,rfl,_,hcell,?_,am F⟩,λh=>⟨?_,am F⟩⟩
 ·congr 1;rw [Xc,δ,δ];omega
 ·rw [ι (λhn=>h hn.1)]
open Classical in
theorem vD {F:PH} {v:Γ} {x:Pr} (hp:Mem.rep F x v) (h1:x.right.length<=16) (h2:x.lay.length<=16):ν 149 #[Y9 v] F λr F'=>r=Za (decide (nq x))/\F.le F':=by
 obtain ⟨r,n,l,rfl,hr,hn,hl⟩:=hp;have er:=hr.len;have el:=hl.len;refine So ?_;unfold MF;refine fresh λb1 F1 l1 q1 _=>⟨_,ld q1 rfl,?_⟩;have hr:=hr.le l1;have hl:=hl.le l1;have no:∀{F':PH},F1.le F'->¬nq x->(Za Y6=Za (decide (nq x))/\F.le F'):=λ{F'} l h=>⟨by rw [ι h],aa l1 l⟩;refine bh (wl · b1 l _) x.lay.length (λk F'=>F1.le F'/\∀y∈x.lay.take k,ly x.right y) ⟨am _,by simp⟩ ?_;rintro k F2 N hk ⟨l2,hi⟩ next;unfold wl;refine ⟨λhlt=> ?_,λhge=> ?_⟩
 ·have hlt:k<x.lay.length:=by omega
  refine ixc (hl.le l2) (by decide) (by omega) (by omega) λa c y hy hrow hc=> ?_;rw [show c=y.arr from hc] at hrow;rw [N4] at hy hrow;have hym:y∈x.lay:=W7 hy;refine ⟨_,rfl,hrow,?_⟩;refine (St.start F2).new λb4 F3 h=> ?_;refine h.put0 (w':=y.arr) rfl rfl (by simp [ak]) λF4 h=> ?_;obtain ⟨_,_,q4,h⟩:∃G',F2.le G'/\G' b4=Y3 (Y4 y.arr 153)/\G'.le F4:=h.pinb (K:=λF4=>∃G',F2.le G'/\G' b4=Y3 (Y4 y.arr 153)/\G'.le F4) λG' l q h=>⟨G',l,q,h.le⟩;have l4:F2.le F4:=aa ‹F2.le _› h;have q4:=h _ _ q4;have l4:=aa l2 l4;have good:ly x.right y->∀F5,F1.le F5->pK N b1 l (k:Int) (λr F'=>r=Za (decide (nq x))/\F.le F') F5:=λhg F5 l5=>by
   unfold pK;rw [aA hlt];refine next _ hlt ⟨l5,λz hz=> ?_⟩;rw [aO hy] at hz;rcases W9.1 hz with hz|hz
   ·exact hi z hz
   ·rw [W5.1 hz];exact hg
  have bad:∀{F':PH},F1.le F'->¬ly x.right y->(Za Y6=Za (decide (nq x))/\F.le F'):=λ{F'} l h=>no l λhd=>h (hd.1 y hym);refine ⟨_,ld q4 rfl,λh=>bad l4 λhp=>by have:=hp.1;omega,λk1=>⟨_,ld q4 rfl,λh=>bad l4 λhp=>by have:=hp.2.1;omega,λk2=>⟨_,ld q4 rfl,?_⟩⟩⟩;refine (qU (hr.le l4) (l4 _ _ q1) y.a).mono ?_;rintro _ F5 ⟨rfl,l5⟩;refine ⟨_,rfl,λh=>bad (aa l4 l5) λhp=> ?_,λk3=>⟨_,ld (l5 _ _ q4) rfl,?_⟩⟩
  ·rw [ζ ⟨hp.2.2.1,hp.2.2.2.1⟩] at h;cases h
  refine (qU (hr.le (aa l4 l5)) (l5 _ _ (l4 _ _ q1)) y.b).mono ?_;rintro _ F6 ⟨rfl,l6⟩;have l46:=aa l4 (aa l5 l6);have q6:=l6 _ _ (l5 _ _ q4);refine ⟨_,rfl,λh=>bad l46 λhp=> ?_,λk4=>⟨_,ld q6 rfl,λk5=>⟨_,ld q6 rfl,λk6=>bad l46 λhp=>k6 (hp.2.2.2.2.2.2 k5),λk6=>good ?_ _ l46⟩,λk5=>good ?_ _ l46⟩⟩
  ·rw [ζ ⟨hp.2.2.2.2.1,hp.2.2.2.2.2.1⟩] at h;cases h
  ·simp at k3 k4;exact ⟨by omega,by omega,k3.1,k3.2,k4.1,k4.2,λ_=>by omega⟩
  ·simp at k3 k4;exact ⟨by omega,by omega,k3.1,k3.2,k4.1,k4.2,λh=>absurd h k5⟩
 ·have e:k=x.lay.length:=by omega
  subst e;rw [Xg] at hi;unfold Ch;refine ⟨x.sco.arr,rfl,je (l2 _ _ q1) rfl,?_⟩;refine (St.start F2).new λb7 F3 h=> ?_;refine h.put0 (w':=x.sco.arr) rfl rfl (by simp [ak]) λF4 h=> ?_;obtain ⟨_,_,q4,h⟩:∃G',F2.le G'/\G' b7=Y3 (Y4 x.sco.arr 53)/\G'.le F4:=h.pinb (K:=λF4=>∃G',F2.le G'/\G' b7=Y3 (Y4 x.sco.arr 53)/\G'.le F4) λG' l q h=>⟨G',l,q,h.le⟩;have l4:F2.le F4:=aa ‹F2.le _› h;have q4:=h _ _ q4;have l4:=aa l2 l4;refine ⟨_,ld q4 rfl,_,ld q4 rfl,?_⟩;refine (qT (hr.le l4) (l4 _ _ q1) x.sco.d x.sco.k 1 7 h1).mono ?_;rintro _ F5 ⟨rfl,l5⟩;refine ⟨_,rfl,λh=>no (aa l4 l5) λhp=> ?_,λk3=>⟨_,ld (l5 _ _ q4) rfl,_,ld (l5 _ _ q4) rfl,?_⟩⟩
  ·rw [ζ hp.2.1] at h;cases h
  refine (qT (hr.le (aa l4 l5)) (l5 _ _ (l4 _ _ q1)) x.sco.u x.sco.a 0 255 h1).mono ?_;rintro _ F6 ⟨rfl,l6⟩;have l46:=aa l4 (aa l5 l6);have q6:=l6 _ _ (l5 _ _ q4);have p1:=l46 _ _ q1;refine ⟨_,rfl,λh=>no l46 λhp=> ?_,λk4=> ?_⟩
  ·rw [ζ hp.2.2.1] at h;cases h
  have k3:cS x.right x.sco.d x.sco.k 1 7:=by simpa using k3
  have k4:cS x.right x.sco.u x.sco.a 0 255:=by simpa using k4
  refine ⟨_,ld p1 rfl,λhb=>⟨?_,aa l1 l46⟩,λhb=> ?_⟩
  ·rw [ζ ⟨hi,k3,k4,λh=>by rw [h] at hb;cases hb⟩]
  have hb:x.brk=Y8:=by simpa using hb
  have nob:¬xN x->(Za Y6=Za (decide (nq x))/\F.le F6):=λh=>no l46 λhp=>h (hp.2.2.2 hb);refine ⟨_,ld p1 rfl,λh=>nob λhp=>h (by have:=hp.1;omega),λk5=>⟨_,ld p1 rfl,λh=>nob λhp=>h hp.2.1,λk6=>⟨_,ld p1 rfl,λh=>nob λhp=> ?_,λk7=>⟨_,rfl,ac q6,_,λF=>LF x.sco qS F,λh=>nob λhp=> ?_,λk8=> ?_⟩⟩⟩⟩
  ·have:=hp.2.2.1;rw [this] at el;simp at el;omega
  ·rw [ζ hp.2.2.2.1] at h;cases h
  have k8:x.sco=qS:=by simpa using k8
  have hr6:=hr.le l46;refine ⟨_,ld p1 rfl,ixc hr6 (by decide) (by omega) (by omega) λa c y hy hrow hc=> ?_⟩;rw [show c=y.arr from hc] at hrow;refine ⟨_,aQ hrow rfl,λk9=>⟨_,ld p1 rfl,ixc hr6 (by decide) (by omega) (by omega) λa c z hz hrow hc=> ?_⟩,λk9=>nob λhp=> ?_⟩
  ·rw [show c=z.arr from hc] at hrow;refine ⟨_,rfl,hrow,_,ld p1 rfl,_,λF=>QE z ⟨Y6,x.left⟩ F,λk10=>⟨_,ld p1 rfl,ixc hr6 (by decide) (by omega) (by omega) λa c w hw hrow hc=> ?_⟩,λk10=>nob λhp=> ?_⟩
   ·rw [show c=w.arr from hc] at hrow;refine ⟨_,aQ hrow rfl,?_,aa l1 l46⟩;have k10:z=⟨Y6,x.left⟩:=by simpa using k10
    subst k10;congr 1;cases hwt:w.t with
    |true=>refine (ζ ⟨hi,k3,k4,λ_=>⟨by omega,Classical.not_not.1 k6,?_,k8,⟨y,hy,k9⟩,hz,⟨w,hw,hwt⟩⟩⟩).symm;exact Xp (by omega)
    |false=>refine (ι λhp=> ?_).symm;obtain ⟨s,hs,hst⟩:=(hp.2.2.2 hb).2.2.2.2.2.2;rw [show x.right[2]? =Y3 w from hw] at hs;cases hs;rw [hwt] at hst;cases hst
   ·have e:Y3 z=_:=hz.symm.trans hp.2.2.2.2.2.1;cases e;simp at k10
  ·obtain ⟨s,hs,hst⟩:=hp.2.2.2.2.1;have e:Y3 y=_:=hy.symm.trans hs;cases e;rw [k9] at hst;cases hst
theorem St.var {G F:PH} {As:List (Ψ)} (h:St G F As) {n:Nat} {z w:Γ} {e:TypeId} {K:Nat->Ψ} (hst:∀x∈w.toList,ak x)
  (k:∀b G' F',G.le G'->G' b=Y3 (Y4 w e)->St G' F' As->K b F') (hz:z.size=n:=by rfl) (hw:w.size=n:=by rfl):∀b,F b=Y5->atF (F.set b (Y4 z e)) λF=>au F (Zc b 0 Y5) n w (K b):=by
 refine h.new λb F1 h=> ?_;refine h.put0 hw hz hst λF2 h=> ?_;exact h.pinb λG' l q h=>k b G' F2 l q h
theorem var1 {F:PH} {n:Nat} {z w:Γ} {e:TypeId} {K:Nat->Ψ} (hst:∀x∈w.toList,ak x)
  (k:∀b F',F.le F'->F' b=Y3 (Y4 w e)->K b F') (hz:z.size=n:=by rfl) (hw:w.size=n:=by rfl):∀b,F b=Y5->atF (F.set b (Y4 z e)) λF=>au F (Zc b 0 Y5) n w (K b):=
 (St.start F).var hst (λb _ F' l q h=>k b F' (aa l h.le) (h.le _ _ q)) hz hw
theorem St.ix {α:Type} [Mem α] {G F:PH} {As:List (Ψ)} (h:St G F As) {s:Sl} {l:List α} (hl:RL G s l) (hn:0<Mem.n α) {i:Int} (h0:0<=i) (h1:i<(s.len:Int)) {K:Addr->Prop}
  (k:∀a c x,l[i.toNat]? =Y3 x->F.row (a.add (i.toNat*Mem.n α)) c->Mem.rep G x c->K a):∃a,s.YZ=Y3 a/\0<=i/\i<(s.len:Int)/\K a:=
 ixc hl hn h0 h1 λa c x hx hr hc=>k a c x hx (aU h.le hr) hc
section
variable {K:Type} [DecidableEq K] {enc:K->ξ} {f:K->Option ξ} {m:Nat} {G F:PH} {As:List (Ψ)} {t:TypeId} {z:ξ}
def mpE (m:Nat) (enc:K->ξ) (f:K->Option ξ):Ψ:=λH=>∃o,H m=Y3 o/\eJ enc f o
theorem St.newMap (h:St G F As) (enc:K->ξ) {Q:Nat->Ψ} (k:∀b F',St G F' (mpE b enc (λ_=>Y5)::As)->Q b F'):∀b,F b=Y5->atF (F.set b (.map #[] 0)) (Q b):=λb hb=>by
 refine atI (k b _ (h.push (H:=PH.set (λ_=>Y5) b (.map #[] 0)) ⟨_,al _ _ _,eJ.empty enc⟩ (λx hx=> ?_) (λx p hx=> ?_) (ae _ hb)))
 ·by_cases e:x=b
  ·rw [e];exact hb
  ·rw [az _ _ e] at hx;exact absurd rfl hx
 ·by_cases e:x=b
  ·rw [e,al] at hx ⊢;exact hx
  ·rw [az _ _ e] at hx;cases hx
theorem St.lookAt (h:St G F As) {i:Nat} (hi:As[i]? =Y3 (mpE m enc f)) (mt:gj prog t enc z) (k:K) (ok:Bool):rdo prog (Instr.lookup t (.map (Y3 m)) (enc k) ok) F (if ok then .tuple #[(f k).getD z,Za (f k).isSome] else (f k).getD z):=by obtain ⟨H,⟨o,h1,h2⟩,_,h3⟩:=h.get hi;exact bJ mt (h3 _ _ h1) h2 k ok
theorem St.updAt (h:St G F As) (i:Nat) (hi:As[i]? =Y3 (mpE m enc f)) (mt:gj prog t enc z) (k:K) (v:ξ) {Q:Unit->Ψ} (kk:∀F',St G F' (As.set i (mpE m enc λk'=>if k'=k then Y3 v else f k'))->Q () F'):
  aF prog (Instr.mapUpdate t (.map (Y3 m)) (enc k) v) F Q:=by
 obtain ⟨H,⟨o,a1,a0⟩,a2,a3,a4⟩:=h.set (A':=mpE m enc λk'=>if k'=k then Y3 v else f k') hi;refine aV mt (a3 _ _ a1) a0 k v λo' ho'=>kk _ ?_;refine a4 (H.set m o') _ ⟨o',al _ _ _,ho'⟩ (λx hx=> ?_) (λx p hx=> ?_) (λx p hx hn=> ?_)
 ·by_cases e:x=m
  ·rw [e,a1];exact .inl (by simp)
  ·rw [az _ _ e] at hx;exact .inl hx
 ·by_cases e:x=m
  ·rw [e,al] at hx ⊢;exact hx
  ·rw [az _ _ e] at hx ⊢;exact a3 _ _ hx
 ·have e:x≠m:=λe=>by rw [e,a1] at hn;cases hn
  rw [az _ _ e];exact hx
end
def zH (g:Gr) (done:List ο) (p:Pr):Prop:=p.name≠emp/\p.name ∉ done/\iD p.cond g.YY.length/\-1<=p.rank/\p.rank<=1/\nq p
def eX (g:Gr) (p:Pr):Prop:=kj g ⟨Y6,p.left⟩/\∀s∈p.right,kj g s
open Classical in
def cN (g:Gr) (done:List ο):List Pr->Int
 |[]=>0
 |p::l=>if ¬eX g p then 50 else if ¬zH g done p then 52 else cN g (done++[p.name]) l
theorem bP {α:Type} {l:List α} {k:Nat} {x:α} (h:l[k]? =Y3 x):l.drop k=x::l.drop (k+1):=by obtain ⟨hk,rfl⟩:=N6.1 h;exact List.drop_eq_getElem_cons hk
theorem Jv:aC prog 146=Y8:=by kernel_rfl
theorem qV {F:PH} {b:Nat} {v:Γ} {g:Gr} (hg:GV F v g) (q:F b=Y3 (Y4 v 37)) (x:Sy):ν 146 #[Y9 x.arr,Ze (Y3 ⟨b,0,Y5⟩)] F λr F'=>r=Za (!decide (kj g x))/\F.le F':=by refine Sk ?_;unfold MD;refine fresh λb2 F1 l1 q1 _=>⟨_,rfl,v,hg.size,ac (l1 _ _ q),_,rfl,ac q1,?_⟩;refine (xM (hg.le l1) x).mono ?_;rintro _ F2 ⟨rfl,l2⟩;exact ⟨_,rfl,rfl,aa l1 l2⟩
theorem eY {g:Gr} (h:bM g=Y6):g.YY.length<=64/\g.YX.length<=256/\g.fils.length<=4096/\g.YW.length<=2000/\g.YV.length<=2000/\g.lvs.length<=2000/\∀p∈g.YV,p.right.length<=16/\p.lay.length<=16:=by unfold bM at h;rw [Bool.or_eq_false_iff,decide_eq_false_iff_not,List.any_eq_false] at h;obtain ⟨h1,h2⟩:=h;refine ⟨by omega,by omega,by omega,by omega,by omega,by omega,λp hp=> ?_⟩;have:=h2 p hp;simp only [δ] at this;omega
open Classical in
theorem oR {F:PH} {v:Γ} {g:Gr} (hg:GV F v g) (hl:bM g=Y6):ν 92 #[Y9 v] F λr F'=>r=vi (cN g [] g.YV)/\F.le F':=by
 obtain ⟨_,_,_,_,hlp,_,hlr⟩:=eY hl;have hg0:=hg;obtain ⟨c,n,t,s,p,l,f,rfl,hs⟩:=hg;have ec:=hs.c.len;have ep:=hs.p.len;refine Wb ?_;unfold Sc;refine fresh λb1 F1 l1 q1 _=> ?_;have hs:=hs.le l1;have hg0:=hg0.le l1;refine (iB F1).mono ?_;rintro _ F2 ⟨G2,bn,m,rfl,l2,hcn,h⟩;refine ⟨_,rfl,_,ld (h.le _ _ (l2 _ _ q1)) rfl,?_⟩;refine bh (z7 · b1 (xK bn) p _) g.YV.length (λk F'=>∃G,G2.le G/\St G F' [bG m ((g.YV.take k).map Pr.name).reverse]/\cN g [] g.YV=cN g ((g.YV.take k).map Pr.name) (g.YV.drop k))
  ⟨G2,am _,h,by simp⟩ ?_
 rintro k F3 N hk ⟨G3,l3,h,hE⟩ next;have l13:=aa l2 l3;unfold z7;refine ⟨λhlt=> ?_,λhge=> ?_⟩
 ·have hlt:k<g.YV.length:=by omega
  refine h.ix (hs.p.le l13) (by decide) (by omega) (by omega) λa cc x hx hr hc=> ?_;rw [N4] at hx;have hxm:x∈g.YV:=W7 hx;obtain ⟨hxr,hxl⟩:=hlr x hxm;have hE':=hE;rw [bP hx,cN] at hE';have hst:=Mem.st hc;have hc0:=hc;obtain ⟨rr,nn,ll,rfl,h1,h2,h3⟩:=hc;refine ⟨x.arr rr nn ll,rfl,hr,?_⟩;refine h.var hst λb5 G4 F4 l4 q5 h=> ?_;have bad50:∀{F'},G3.le F'->¬eX g x->(vi 50=vi (cN g [] g.YV)/\F.le F'):=λ{F'} l hn=>⟨by rw [hE',Χ hn],aa l1 (aa l13 l)⟩;have bad52:∀{F'},G3.le F'->eX g x->¬zH g ((g.YV.take k).map Pr.name) x->(vi 52=vi (cN g [] g.YV)/\F.le F'):=λ{F'} l h1 hn=>⟨by rw [hE',Υ (λh=>h h1),Χ hn],aa l1 (aa l13 l)⟩;refine ⟨_,ld (h.le _ _ q5) rfl,?_⟩;refine h.runv (qV (x:=⟨Y6,x.left⟩) (hg0.le (aa l13 l4)) (l4 _ _ (l13 _ _ q1))) λG5 F5 l5 h=>⟨_,rfl,λhb=>bad50 (aa l4 (aa l5 h.le)) λhn=> ?_,λhb=>⟨_,ld (h.le _ _ (l5 _ _ q5)) rfl,?_⟩⟩
  ·rw [ζ hn.1] at hb;cases hb
  have hs1:kj g ⟨Y6,x.left⟩:=by simpa using hb
  have l35:=aa l4 l5;have sp:ν 148 #[rr.v,.func (.func 146) #[] #[Ze (Y3 ⟨b1,0,Y5⟩)]] G5 λr F'=>r=Za (x.right.any λs=> !decide (kj g s))/\G5.le F':=by
   refine Ty ?_;unfold M4
   refine (show ν 187 #[rr.v,.func (.func 146) #[] #[Ze (Y3 ⟨b1,0,Y5⟩)]] G5 (λr F'=>∃i,r=vi i/\(0<=i↔(x.right.any λs=> !decide (kj g s))=Y8)/\G5.le F')
    from TE (zC (h1.le l35) (by decide) (by omega) Jv (λs=> !decide (kj g s)) λy hy c F6 l6 hc=> ?_)).mono ?_
   ·rw [show c=y.arr from hc];exact qV (hg0.le (aa l13 (aa l35 l6))) (l6 _ _ (l35 _ _ (l13 _ _ q1))) y
   ·rintro _ F6 ⟨i,rfl,hi,l6⟩;refine ⟨_,rfl,?_,l6⟩;congr 1;rw [Xc,δ];exact hi
  refine h.runv sp λG6 F6 l6 h=>⟨_,rfl,λhb=>bad50 (aa l35 (aa l6 h.le)) λhn=> ?_,λhb=> ?_⟩
  ·obtain ⟨y,hy,hy2⟩:=X5.1 hb;rw [ζ (hn.2 y hy)] at hy2;cases hy2
  have hsy:eX g x:=⟨hs1,λy hy=>by
   have:=List.any_eq_false.1 hb y hy
   simpa using this⟩
  have l35:=aa l35 l6;have q6:=l6 _ _ (l5 _ _ q5);refine ⟨_,ld (h.le _ _ q6) rfl,?_⟩;refine pf h (aI (aa l3 l35) hcn) x.name λG7 F7 l7 h=>⟨_,rfl,λhb=>bad52 (aa l35 (aa l7 h.le)) hsy λhn=> ?_,λhb=> ?_⟩
  ·rw [ζ ⟨hn.1,hn.2.1⟩] at hb;cases hb
  have hnm:x.name≠emp/\x.name ∉ (g.YV.take k).map Pr.name:=by simpa using hb
  have l35:=aa l35 l7;have q7:=l7 _ _ q6;refine ⟨#[nn.v,vi x.cond.2],rfl,je (h.le _ _ q7) rfl,_,ld (h.le _ _ (l35 _ _ (l13 _ _ q1))) rfl,?_⟩;dsimp only;rw [ec];refine h.runv (g0 (d:=x.cond) (DV.mk (h2.le l35))) λG8 F8 l8 h=>⟨_,rfl,λhb=>bad52 (aa l35 (aa l8 h.le)) hsy λhn=> ?_,λhb=> ?_⟩
  ·rw [bD.2 hn.2.2.1] at hb;cases hb
  have hfit:iD x.cond g.YY.length:=bD.1 (by simpa using hb);have l35:=aa l35 l8;have q8:=l8 _ _ q7;refine ⟨_,ld (h.le _ _ q8) rfl,λhb=>bad52 (aa l35 h.le) hsy λhn=>by have:=hn.2.2.2.1;omega,λhr1=>⟨_,ld (h.le _ _ q8) rfl,λhb=>bad52 (aa l35 h.le) hsy λhn=>by have:=hn.2.2.2.2.1;omega,λhr2=>⟨_,rfl,ac (h.le _ _ q8),?_⟩⟩⟩;refine h.runv (vD (Mem.le l35 hc0) hxr hxl) λG9 F9 l9 h=>⟨_,rfl,λhb=>bad52 (aa l35 (aa l9 h.le)) hsy λhn=> ?_,λhb=> ?_⟩
  ·rw [ζ hn.2.2.2.2.2] at hb;cases hb
  have hdet:nq x:=by simpa using hb
  rw [aA hlt];have e:(g.YV.take k).map Pr.name++[x.name]=(g.YV.take (k+1)).map Pr.name:=by rw [aO hx,Xt];rfl
  refine next _ hlt ⟨G9,aa l3 (aa l35 l9),by rw [<- e];exact h,?_⟩;rw [hE',Υ (λh=>h hsy),Υ (λh=>h ⟨hnm.1,hnm.2,hfit,by omega,by omega,hdet⟩),e]
 ·have e:k=g.YV.length:=by omega
  subst e;rw [XQ,cN] at hE;unfold Gb;exact ⟨by rw [hE],aa l1 (aa l13 h.le)⟩
def Jw (g:Gr) (done:Φ) (l:Lv):Prop:=0<=l.assoc/\l.assoc<=3/\iD l.cond g.YY.length/\(∀p∈l.ps,0<=p/\p<g.YV.length)/\l.ps.Nodup/\∀p∈l.ps,p ∉ done
def dc (g:Gr) (done:Φ):List Lv->Prop
 |[]=>True
 |l::r=>Jw g done l/\dc g (done++l.ps) r
def lz (l:Φ) (i:Int):Option ξ:=if i∈l then Y3 (Za Y8) else Y5
theorem zI (l:Φ) (x:Int):lz (l++[x])=λk=>if k=x then Y3 (Za Y8) else lz l k:=by funext k;unfold lz;by_cases e:k=x<;>simp [e]
theorem QF:gj prog 186 aH (.bool Y6):=⟨_,_,underlying186,QA,JK⟩
open Classical in
theorem nr {F:PH} {v:Γ} {g:Gr} (hg:GV F v g) (hl:bM g=Y6) (hz:Sz g):ν 93 #[Y9 v] F λr F'=>r=vi (if dc g [] g.lvs then 0 else 53)/\F.le F':=by
 obtain ⟨_,_,_,_,hlp,hll,_⟩:=eY hl;obtain ⟨c,n,t,s,p,l,f,rfl,hs⟩:=hg;have ec:=hs.c.len;have ep:=hs.p.len;have el:=hs.l.len;refine Wc ?_;unfold Sd;refine fresh λb1 F1 l1 q1 _=> ?_;have hs:=hs.le l1;refine (St.start F1).newMap aH λb8 F2 h=> ?_;refine ⟨_,ld (h.le _ _ q1) rfl,?_⟩;refine bh (z9 · b1 b8 l _) g.lvs.length (λk F'=>∃G,F1.le G/\St G F' [mpE b8 aH (lz ((g.lvs.take k).flatMap Lv.ps))]/\(dc g [] g.lvs↔dc g ((g.lvs.take k).flatMap Lv.ps) (g.lvs.drop k)))
  ⟨F1,am _,by rw [show lz ((g.lvs.take 0).flatMap Lv.ps)=λ_=>Y5 from funext λi=>by simp [lz]];exact h,by simp⟩ ?_
 rintro k F3 N hk ⟨G3,l3,h,hE⟩ next;unfold z9;refine ⟨λhlt=> ?_,λhge=> ?_⟩
 ·have hlt:k<g.lvs.length:=by omega
  refine h.ix (hs.l.le l3) (by decide) (by omega) (by omega) λa cc x hx hr hc=> ?_;rw [N4] at hx;have hxm:x∈g.lvs:=W7 hx;have hpl:=hz.l x hxm;rw [bP hx,dc] at hE;have hst:=Mem.st hc;obtain ⟨pp,nn,rfl,h1,h2⟩:=hc;have epp:=h1.len;refine ⟨x.arr pp nn,rfl,hr,?_⟩;refine h.var hst λb5 G4 F4 l4 q5 h=> ?_;have bad:∀{F'},G3.le F'->¬Jw g ((g.lvs.take k).flatMap Lv.ps) x->(vi 53=vi (if dc g [] g.lvs then 0 else 53)/\F.le F'):=λ{F'} l hn=>⟨by rw [if_neg (λh=>hn (hE.1 h).1)],aa l1 (aa l3 l)⟩;refine ⟨_,ld (h.le _ _ q5) rfl,λhb=>bad (aa l4 h.le) λhn=>by have:=hn.1;omega,λk1=>⟨_,ld (h.le _ _ q5) rfl,λhb=>bad (aa l4 h.le) λhn=>by have:=hn.2.1;omega,λk2=>⟨#[nn.v,vi x.cond.2],rfl,je (h.le _ _ q5) rfl,_,ld (h.le _ _ (l4 _ _ (l3 _ _ q1))) rfl,?_⟩⟩⟩;dsimp only;rw [ec];refine h.runv (g0 (d:=x.cond) (DV.mk (h2.le l4))) λG5 F5 l5 h=>⟨_,rfl,λhb=>bad (aa l4 (aa l5 h.le)) λhn=> ?_,λhb=> ?_⟩
  ·rw [bD.2 hn.2.2.1] at hb;cases hb
  have hfit:iD x.cond g.YY.length:=bD.1 (by simpa using hb);have l35:=aa l4 l5;refine ⟨_,ld (h.le _ _ (l5 _ _ q5)) rfl,?_⟩;refine bh (z8 N · b1 b8 l (k:Int) pp _) x.ps.length (λj F'=>∃G,G5.le G/\St G F' [mpE b8 aH (lz ((g.lvs.take k).flatMap Lv.ps++x.ps.take j))]/\(∀p∈x.ps.take j,0<=p/\p<g.YV.length)/\(x.ps.take j).Nodup/\∀p∈x.ps.take j,p ∉ (g.lvs.take k).flatMap Lv.ps)
   ⟨G5,am _,by simpa using h,by simp,by simp,by simp⟩ ?_
  rintro j F6 N2 hj ⟨G6,l6,h,i1,i2,i3⟩ next2;have l36:=aa l35 l6;unfold z8;refine ⟨λhlt2=> ?_,λhge2=> ?_⟩
  ·have hlt2:j<x.ps.length:=by omega
   refine h.ix (h1.le l36) (by decide) (by omega) (by omega) λa cc y hy hr hc=> ?_;rw [N4] at hy hr;rw [show cc= #[vi y] from hc] at hr;have hym:y∈x.ps:=W7 hy;have hlk:=h.lookAt (i:=0) rfl QF y Y6;refine ⟨_,aQ hr rfl,λhb=>bad (aa l36 h.le) λhn=>by have:=(hn.2.2.2.1 y hym).1;omega,λy0=>⟨_,ld (h.le _ _ (l36 _ _ (l3 _ _ q1))) rfl,λhb=>bad (aa l36 h.le) λhn=>by have:=(hn.2.2.2.1 y hym).2;omega,λy1=> ?_⟩⟩;by_cases hu:y∈(g.lvs.take k).flatMap Lv.ps++x.ps.take j
   ·rw [show lz _ y=Y3 (Za Y8) from Χ hu] at hlk;refine ⟨Y8,hlk,λ_=>bad (aa l36 h.le) λhn=> ?_,λh=>(by cases h)⟩;rcases W9.1 hu with hu|hu
    ·exact hn.2.2.2.2.2 y hym hu
    ·have hnd:=hn.2.2.2.2.1.sublist (List.take_sublist (j+1) x.ps);rw [aO hy,Xv] at hnd;exact hnd.2.2 y hu y (by simp) rfl
   ·rw [show lz _ y=Y5 from Υ hu] at hlk;refine ⟨Y6,hlk,λh=>(by cases h),λ_=> ?_⟩;refine h.updAt 0 rfl QF y (Za Y8) λF7 h=> ?_;rw [aA hlt2];rw [W9,not_or] at hu;refine next2 _ hlt2 ⟨G6,l6,?_,λp hp=> ?_,?_,λp hp=> ?_⟩
    ·rw [aO hy,<- XA,zI];exact h
    ·rw [aO hy] at hp;rcases W9.1 hp with hp|hp
     ·exact i1 p hp
     ·rw [W5.1 hp];omega
    ·rw [aO hy,Xv];exact ⟨i2,by simp,λa ha b hb e=>hu.2 (by rw [<- W5.1 hb,<- e];exact ha)⟩
    ·rw [aO hy] at hp;rcases W9.1 hp with hp|hp
     ·exact i3 p hp
     ·rw [W5.1 hp];exact hu.1
  ·have e:j=x.ps.length:=by omega
   subst e;rw [Xg] at i1 i2 i3 h;unfold Ge;rw [aA hlt];have e:(g.lvs.take k).flatMap Lv.ps++x.ps=(g.lvs.take (k+1)).flatMap Lv.ps:=by rw [aO hx,X7];simp
   rw [e] at h hE;refine next _ hlt ⟨G6,aa l3 l36,h,hE.trans ⟨λh=>h.2,λh=>⟨⟨by omega,by omega,hfit,i1,i2,i3⟩,h⟩⟩⟩
 ·have e:k=g.lvs.length:=by omega
  subst e;rw [XQ,dc] at hE;unfold Gc;exact ⟨by rw [Χ (hE.2 trivial)],aa l1 (aa l3 h.le)⟩
def gf (g:Gr) (kd:Tk->Bool) (l:Φ):Prop:=l≠[]/\(∀n∈l,0<=n/\∃t,g.YX[n.toNat]? =Y3 t/\kd t=Y8)/\∀(i:Nat) (x y:Int),l[i]? =Y3 x->l[i+1]? =Y3 y->x<y
open Classical in
theorem jv {F:PH} {v:Γ} {g:Gr} (hg:GV F v g) {sl:Sl} {l:Φ} (hl:RL F sl l) (hll:l.length<=1000000000) {k:Nat} {fst cap:Γ} (hk:aC prog k=Y8) (kd:Tk->Bool)
  (hkd:∀t c F1,F.le F1->Mem.rep F1 t c->ai prog k (fst++([Y9 c]).toArray++cap) F1 λr F'=>r=Za (kd t)/\F1.le F'):
  ν 153 #[Y9 v,sl.v,.func (.func k) fst cap] F λr F'=>r=Za (decide (gf g kd l))/\F.le F':=by
 obtain ⟨c,n,t,s,p,lv,f,rfl,hs⟩:=hg;have et:=hs.t.len;have el:=hl.len;refine Su ?_;unfold MK;refine fresh λb1 F1 l1 q1 _=> ?_;have hs:=hs.le l1;have hl:=hl.le l1;have no:∀{F':PH},F1.le F'->¬gf g kd l->(Za Y6=Za (decide (gf g kd l))/\F.le F'):=λ{F'} l h=>⟨by rw [ι h],aa l1 l⟩;refine bh (wm · sl (.func (.func k) fst cap) b1 _) l.length (λj F'=>F1.le F'/\(∀n∈l.take j,0<=n/\∃t,g.YX[n.toNat]? =Y3 t/\kd t=Y8)/\∀(i:Nat) (x y:Int),i+1<j->l[i]? =Y3 x->l[i+1]? =Y3 y->x<y)
  ⟨am _,by simp,λi x y h=>by omega⟩ ?_
 rintro j F2 N hj ⟨l2,i1,i2⟩ next;unfold wm;refine ⟨λhlt=> ?_,λhge=> ?_⟩
 ·have hlt:j<l.length:=by omega
  refine ixc (hl.le l2) (by decide) (by omega) (by omega) λa cc x hx hr hc=> ?_;rw [N4] at hx hr;rw [show cc= #[vi x] from hc] at hr;have hxm:x∈l:=W7 hx;have p1:=l2 _ _ q1;have noR:¬(0<=x/\x<g.YX.length)->(Za Y6=Za (decide (gf g kd l))/\F.le F2):=λh=>no l2 λhp=>by obtain ⟨h0,t',ht,_⟩:=hp.2.1 x hxm;have:=(N6.1 ht).1;exact h ⟨h0,by omega⟩
  refine ⟨_,aQ hr rfl,λh=>noR (by omega),λx0=>⟨_,ld p1 rfl,λh=>noR (by omega),λx1=> ?_⟩⟩;have body:(∀y,0<j->l[j - 1]? =Y3 y->y<x)->∃v_41:Sl,F2.cell (Zc b1 3 Y5)=Y3 (Y7 v_41)/\
   ∃a43_:Addr,v_41.YZ=Y3 a43_/\0<=x/\x<(v_41.len:Int)/\
   ∃v_44:Γ,v_44.size=7/\F2.row (Zb a43_ (Zd x*7)) v_44/\
   ∃(k45:Nat) (fst45 cap45:Γ),Value.func (.func k) fst cap=.func (.func k45) fst45 cap45/\aC prog k45=Y8/\ai prog k45 (fst45++([(Y9 v_44)]).toArray++cap45) F2 λv F'=>∃v_45:Bool,v=(Za v_45)/\
   (((!v_45)=Y8->(Za Y6=Za (decide (gf g kd l))/\F.le F'))/\
   ((!v_45)=Y6->pL N sl (.func (.func k) fst cap) b1 (j:Int) (λr F'=>r=Za (decide (gf g kd l))/\F.le F') F')):=λhprev=>by
   refine ⟨_,ld p1 rfl,ixc (hs.t.le l2) (by decide) (by omega) (by omega) λa cc y hy hr hc=>⟨cc,Mem.len hc,hr,k,fst,cap,rfl,hk,?_⟩⟩;refine (hkd y cc F2 (aa l1 l2) hc).mono ?_;rintro _ F3 ⟨rfl,l3⟩;refine ⟨_,rfl,λh=>no (aa l2 l3) λhp=> ?_,λh=> ?_⟩
   ·obtain ⟨h0,t',ht,hk'⟩:=hp.2.1 x hxm;rw [hy] at ht;cases ht;rw [hk'] at h;cases h
   ·unfold pL;rw [aA hlt];refine next _ hlt ⟨aa l2 l3,λm hm=> ?_,λi u w hi hu hw=> ?_⟩
    ·rw [aO hx] at hm;rcases W9.1 hm with hm|hm
     ·exact i1 m hm
     ·rw [W5.1 hm];exact ⟨by omega,y,hy,by simpa using h⟩
    ·by_cases e:i+1<j
     ·exact i2 i u w e hu hw
     ·have e:j=i+1:=by omega
      subst e;rw [hx] at hw;cases hw;exact hprev u (by omega) hu
  refine ⟨λhj0=> ?_,λhj0=>body λy h=>by omega⟩;have hj0:0<j:=by omega
  have ew:i64.wrap ((j:Int) - 1)=((j - 1:Nat):Int):=by rw [aP (by omega)];omega
  rw [ew];refine ixc (hl.le l2) (by decide) (by omega) (by omega) λa cc y hy hr hc=> ?_;rw [N4] at hy hr;rw [show cc= #[vi y] from hc] at hr;refine ⟨_,aQ (by rw [N4];exact hr) rfl,λh=>no l2 λhp=> ?_,λh=>body λz _ hz=> ?_⟩
  ·have:=hp.2.2 (j - 1) y x hy (by rw [show j - 1+1=j by omega];exact hx);omega
  ·rw [hy] at hz;cases hz;omega
 ·have e:j=l.length:=by omega
  subst e;rw [Xg] at i1;unfold Cj;refine ⟨?_,aa l1 l2⟩;congr 1;rw [Xc,δ,δ];constructor
  ·intro h;refine ⟨λe=>by rw [e] at el;simp at el;omega,i1,λi x y hx hy=>i2 i x y ?_ hx hy⟩;exact (N6.1 hy).1
  ·intro h;have:l.length≠0:=λe=>h.1 (Xp e);omega
def oq (g:Gr) (x:Fi):Prop:=0<=x.par/\0<=x.ch/\0<=x.pos/\∃p q,g.YV[x.par.toNat]? =Y3 p/\g.YV[x.ch.toNat]? =Y3 q/\p.right[x.pos.toNat]? =Y3 ⟨Y6,q.left⟩
open Classical in
theorem DX {F:PH} {v w:Γ} {g:Gr} {x:Fi} (hg:GV F v g) (hx:Mem.rep F x w):ν 152 #[Y9 v,Y9 w] F λr F'=>r=Za (decide (oq g x))/\F.le F':=by
 obtain ⟨c,n,t,s,p,lv,f,rfl,hs⟩:=hg;obtain ⟨tt,nn,rfl,_,_⟩:=hx;have ep:=hs.p.len;refine Ss ?_;unfold MJ;refine fresh λb2 F1 l1 q1 _=> ?_;refine fresh λb3 F2 l2 q2 _=> ?_;have q1:=l2 _ _ q1;have l1:=aa l1 l2;have hp:=hs.p.le l1;have no:¬oq g x->(Za Y6=Za (decide (oq g x))/\F.le F2):=λh=>⟨by rw [ι h],l1⟩;have noR:¬(x.par<g.YV.length/\x.ch<g.YV.length)->¬oq g x:=λh hq=>by obtain ⟨_,_,_,p',q',hp',hq',_⟩:=hq;have:=(N6.1 hp').1;have:=(N6.1 hq').1;exact h (by omega)
 refine ⟨_,ld q2 rfl,λh=>no λhq=>by have:=hq.1;omega,λk1=>⟨_,ld q2 rfl,_,ld q1 rfl,λh=>no (noR (by omega)),λk2=>⟨_,ld q2 rfl,λh=>no λhq=>by have:=hq.2.1;omega,λk3=>⟨_,ld q2 rfl,_,ld q1 rfl,λh=>no (noR (by omega)),λk4=>⟨_,ld q1 rfl,_,ld q2 rfl,?_⟩⟩⟩⟩⟩;refine ixc hp (by decide) (by omega) (by omega) λa cc y hy hr hc=> ?_;obtain ⟨rr,n2,l2',rfl,h1,_,_⟩:=hc;have er:=h1.len;have noA:¬x.pos<y.right.length->¬oq g x:=λh hq=>by obtain ⟨_,_,_,p',q',hp',hq',hs'⟩:=hq;rw [hy] at hp';cases hp';have:=(N6.1 hs').1;omega
 refine ⟨_,bj hr rfl,_,ld q2 rfl,λk5=>⟨_,ld q2 rfl,λk6=>⟨_,ld q2 rfl,?_⟩,λk6=>no (noA (by omega))⟩,λk5=>no λhq=>k5 hq.2.2.1⟩;refine ixc h1 (by decide) (by omega) (by omega) λa cc z hz hr hc=> ?_;rw [show cc=z.arr from hc] at hr;refine ⟨_,rfl,hr,_,ld q1 rfl,_,ld q2 rfl,ixc hp (by decide) (by omega) (by omega) λa cc u hu hr hc=> ?_⟩;obtain ⟨r3,n3,l3',rfl,_,_,_⟩:=hc;refine ⟨_,bj hr rfl,_,λF=>QE z ⟨Y6,u.left⟩ F,?_,l1⟩;congr 1;rw [Xc,δ,δ];constructor
 ·rintro rfl;exact ⟨by omega,by omega,by omega,y,u,hy,hu,hz⟩
 ·rintro ⟨_,_,_,p',q',hp',hq',hs'⟩;rw [hy] at hp';cases hp';rw [hu] at hq';cases hq';rw [hz] at hs';exact Xy hs'
def ce (g:Gr) (x:Fi):Prop:=iD x.cond g.YY.length/\
  (((x.k=1\/x.k=2)/\oq g x/\x.left=0/\x.tok=0/\x.YX=[])\/
   ((x.k=3\/x.k=4)/\(0<=x.left/\x.left<g.YW.length/\gf g (λt=>decide (t.cls=0)) x.YX)/\x.par=0/\x.pos=0/\x.ch=0/\x.tok=0)\/
   (x.k=5/\(gf g (λt=> !decide (t.lit=emp)) x.YX/\0<=x.tok/\∃t,g.YX[x.tok.toNat]? =Y3 t/\t.cls=0/\t.lit=emp)/\x.par=0/\x.pos=0/\x.ch=0/\x.left=0))
theorem QG:aC prog 150=Y8:=by kernel_rfl
theorem QH:aC prog 151=Y8:=by kernel_rfl
theorem kq {F:PH} {t:Tk} {c:Γ} (h:Mem.rep F t c):ν 150 #[Y9 c] F λr F'=>r=Za (decide (t.cls=0))/\F.le F':=by obtain ⟨p,n,rfl,_,_⟩:=h;refine Sq ?_;unfold MH;exact fresh λb F1 l1 q1 _=>⟨_,ld q1 rfl,rfl,l1⟩
theorem ku {F:PH} {t:Tk} {c:Γ} (h:Mem.rep F t c):ν 151 #[Y9 c] F λr F'=>r=Za (!decide (t.lit=emp))/\F.le F':=by obtain ⟨p,n,rfl,_,_⟩:=h;refine Sr ?_;unfold MI;exact fresh λb F1 l1 q1 _=>⟨_,ld q1 rfl,by rw [gY],l1⟩
abbrev qW (a0 a1 a2 a3 a4 a5:Int) (s6 s7:Sl) (a8:Int):Γ:= #[vi a0,vi a1,vi a2,vi a3,vi a4,vi a5,s6.v,s7.v,vi a8]
open Classical in
theorem lA {F:PH} {v:Γ} {g:Gr} (hg:GV F v g) (hl:bM g=Y6) (hz:Sz g):ν 94 #[Y9 v] F λr F'=>r=vi (if ∀x∈g.fils,ce g x then 0 else 53)/\F.le F':=by
 obtain ⟨_,_,hlf,_,_,_,_⟩:=eY hl;have hg0:=hg;obtain ⟨c,n,t,s,p,lv,f,rfl,hs⟩:=hg;have ec:=hs.c.len;have et:=hs.t.len;have es:=hs.s.len;have ef:=hs.f.len;refine Wd ?_;unfold Se;refine fresh λb1 F1 l1 q1 _=> ?_;have hs:=hs.le l1;have hg0:=hg0.le l1;refine ⟨_,ld q1 rfl,?_⟩;refine bh (Aa · b1 f _) g.fils.length (λk F'=>∃G,F1.le G/\St G F' []/\∀x∈g.fils.take k,ce g x) ⟨F1,am _,.start _,by simp⟩ ?_;rintro k F3 N hk ⟨G3,l3,h,hi⟩ next;unfold Aa;refine ⟨λhlt=> ?_,λhge=> ?_⟩
 ·have hlt:k<g.fils.length:=by omega
  refine h.ix (hs.f.le l3) (by decide) (by omega) (by omega) λa cc x hx hr hc=> ?_;rw [N4] at hx;have hxm:x∈g.fils:=W7 hx;have hxl:=hz.f x hxm;have hst:=Mem.st hc;have hc0:=hc;obtain ⟨tt,nn,rfl,h1,h2⟩:=hc;have ett:=h1.len;refine ⟨x.arr tt nn,rfl,hr,?_⟩;refine h.var hst λb6 G4 F4 l4 q6 h=> ?_;have bad:∀{F'},G3.le F'->¬ce g x->(vi 53=vi (if ∀x∈g.fils,ce g x then 0 else 53)/\F.le F'):=λ{F'} l hn=>⟨by rw [if_neg (λh=>hn (h x hxm))],aa l1 (aa l3 l)⟩;refine ⟨#[nn.v,vi x.cond.2],rfl,je (h.le _ _ q6) rfl,_,ld (h.le _ _ (l4 _ _ (l3 _ _ q1))) rfl,?_⟩;dsimp only;rw [ec];refine h.runv (g0 (d:=x.cond) (DV.mk (h2.le l4))) λG5 F5 l5 h=>⟨_,rfl,_,rfl,ac (h.le _ _ (l5 _ _ q6)),?_⟩;have l35:=aa l4 l5;have q6:=l5 _ _ q6;refine h.new λb8 F6 h=> ?_;refine h.put0 (w':=x.arr tt nn) rfl rfl hst λF7 h=> ?_;refine h.set0 (w':=qW 0 x.par x.pos x.ch x.left x.tok tt nn x.cond.2) (by simp) rfl λF8 h=> ?_;refine h.putR0 (w':=qW 0 x.par x.pos x.ch x.left x.tok tt Zi 0) rfl (by simp [ak]) (by simp) rfl λF9 h=> ?_;have j2:∀(fine:Bool) (a1 a2 a3 a4 a5:Int) (s6:Sl) G9 F9,G3.le G9->St G9 F9 [pt b8 (Y4 (qW 0 a1 a2 a3 a4 a5 s6 Zi 0) 156)]->
    ((fine=Y8/\a1=0/\a2=0/\a3=0/\a4=0/\a5=0/\s6.len=0)↔ce g x)->
    fG N b1 b8 f (k:Int) fine (λr F'=>r=vi (if ∀x∈g.fils,ce g x then 0 else 53)/\F.le F') F9:=λfine a1 a2 a3 a4 a5 s6 G9 F9 l9 h hiff=>by
   unfold fG;have l:=aa l9 h.le
   refine ⟨λhb=>bad l λhn=>(by rw [(hiff.2 hn).1] at hb;cases hb),λhb=>⟨_,h.ld0 rfl,λe=>bad l λhn=>e (hiff.2 hn).2.1,λe1=>⟨_,h.ld0 rfl,λe=>bad l λhn=>e (hiff.2 hn).2.2.1,λe2=>⟨_,h.ld0 rfl,λe=>bad l λhn=>e (hiff.2 hn).2.2.2.1,λe3=>
    ⟨_,h.ld0 rfl,λe=>bad l λhn=>e (hiff.2 hn).2.2.2.2.1,λe4=>⟨_,h.ld0 rfl,λe=>bad l λhn=>e (hiff.2 hn).2.2.2.2.2.1,λe5=>⟨_,h.ld0 rfl,λe=>bad l λhn=>by have:=(hiff.2 hn).2.2.2.2.2.2;omega,λe6=> ?_⟩⟩⟩⟩⟩⟩⟩
   rw [aA hlt];refine next _ hlt ⟨G9,aa l3 l9,h.tail,λy hy=> ?_⟩;rw [aO hx] at hy;rcases W9.1 hy with hy|hy
   ·exact hi y hy
   ·rw [W5.1 hy];exact hiff.1 ⟨by simpa using hb,Classical.not_not.1 e1,Classical.not_not.1 e2,Classical.not_not.1 e3,Classical.not_not.1 e4,Classical.not_not.1 e5,by omega⟩
  have hF:=bD (d:=x.cond) (n:=g.YY.length);generalize qQ x.cond g.YY.length=fit at*;have nil6:tt.len=0↔x.YX=[]:=by rw [ett];exact XV
  refine ⟨_,ld (h.le _ _ q6) rfl,?_⟩;have j4:∀(b:Bool),(b=Y8↔x.k=3\/x.k=4)->¬(x.k=1\/x.k=2)->wh N b1 b6 fit b8 f (k:Int) x.k b (λr F'=>r=vi (if ∀x∈g.fils,ce g x then 0 else 53)/\F.le F') F9:=λb hb hn12=>by
   unfold wh;refine ⟨λhbt=> ?_,λhbf=>⟨λk5=> ?_,λk5=> ?_⟩⟩
   ·have hk:=hb.1 hbt;refine h.set0 (w':=qW 0 x.par x.pos x.ch 0 x.tok tt Zi 0) (by simp) rfl λF10 h=> ?_;refine h.set0 (w':=qW 0 x.par x.pos x.ch 0 x.tok Zi Zi 0) (by simp) rfl λF11 h=> ?_;have bad':¬(0<=x.left/\x.left<g.YW.length/\gf g (λt=>decide (t.cls=0)) x.YX)->¬ce g x:=λhn hok=>by
     rcases hok.2 with h'|h'|h'
     ·omega
     ·exact hn h'.2.1
     ·omega
    refine ⟨λhft=>⟨_,ld (h.le _ _ q6) rfl,λk1=>⟨_,ld (h.le _ _ q6) rfl,_,ld (h.le _ _ (l35 _ _ (l3 _ _ q1))) rfl,λk2=>⟨_,rfl,ac (h.le _ _ (l35 _ _ (l3 _ _ q1))),_,ld (h.le _ _ q6) rfl,?_⟩,λk2=> ?_⟩,λk1=> ?_⟩,λhff=> ?_⟩
    ·refine h.runv (jv (hg0.le (aa l3 l35)) (h1.le l35) hxl QG (λt=>decide (t.cls=0)) λt c F1 _ hc=>kq hc) λG10 F10 l10 h=>⟨_,rfl,?_⟩;refine j2 _ _ _ _ _ _ _ G10 F10 (aa l35 l10) h ?_;rw [δ];constructor
     ·rintro ⟨ha,e1,e2,e3,_,e5,_⟩;exact ⟨hF.1 hft,.inr (.inl ⟨hk,⟨k1,by omega,ha⟩,e1,e2,e3,e5⟩)⟩
     ·intro hok;rcases hok.2 with h'|h'|h'
      ·omega
      ·exact ⟨h'.2.1.2.2,h'.2.2.1,h'.2.2.2.1,h'.2.2.2.2.1,rfl,h'.2.2.2.2.2,rfl⟩
      ·omega
    ·exact j2 _ _ _ _ _ _ _ G5 F11 l35 h ⟨λh=>(by cases h.1),λhok=>absurd hok (bad' λh=>k2 (by omega))⟩
    ·exact j2 _ _ _ _ _ _ _ G5 F11 l35 h ⟨λh=>(by cases h.1),λhok=>absurd hok (bad' λh=>k1 h.1)⟩
    ·exact j2 _ _ _ _ _ _ _ G5 F11 l35 h ⟨λh=>(by cases h.1),λhok=>by rw [hF.2 hok.1] at hff;cases hff⟩
   ·refine h.set0 (w':=qW 0 x.par x.pos x.ch x.left 0 tt Zi 0) (by simp) rfl λF10 h=> ?_;refine h.set0 (w':=qW 0 x.par x.pos x.ch x.left 0 Zi Zi 0) (by simp) rfl λF11 h=> ?_;have bad':¬(gf g (λt=> !decide (t.lit=emp)) x.YX/\0<=x.tok/\∃t,g.YX[x.tok.toNat]? =Y3 t/\t.cls=0/\t.lit=emp)->¬ce g x:=λhn hok=>by
     rcases hok.2 with h'|h'|h'
     ·omega
     ·omega
     ·exact hn h'.2.1
    have j5f:∀G10 F10,G3.le G10->St G10 F10 [pt b8 (Y4 (qW 0 x.par x.pos x.ch x.left 0 Zi Zi 0) 156)]->¬ce g x->kO N b1 b6 b8 f (k:Int) Y6 (λr F'=>r=vi (if ∀x∈g.fils,ce g x then 0 else 53)/\F.le F') F10:=λG10 F10 l10 h hn=>by unfold kO;exact ⟨λh=>(by cases h),λ_=>j2 _ _ _ _ _ _ _ G10 F10 l10 h ⟨λh=>(by cases h.1),λhok=>absurd hok hn⟩⟩
    refine ⟨λhft=>⟨_,rfl,ac (h.le _ _ (l35 _ _ (l3 _ _ q1))),_,ld (h.le _ _ q6) rfl,?_⟩,λhff=>j5f G5 F11 l35 h λhok=>by rw [hF.2 hok.1] at hff;cases hff⟩;refine h.runv (jv (hg0.le (aa l3 l35)) (h1.le l35) hxl QH (λt=> !decide (t.lit=emp)) λt c F1 _ hc=>ku hc) λG10 F10 l10 h=>⟨_,rfl,λha=> ?_,λha=>j5f G10 F10 (aa l35 l10) h (bad' λh=>η ha h.1)⟩;have ha:=ε ha;have l35:=aa l35 l10;have q6:=l10 _ _ q6;have p1:=l35 _ _ (l3 _ _ q1);refine ⟨_,ld (h.le _ _ q6) rfl,λk1=>⟨_,ld (h.le _ _ q6) rfl,_,ld (h.le _ _ p1) rfl,?_⟩,λk1=>j5f G10 F10 l35 h (bad' λh=>k1 h.2.1)⟩;by_cases k2:x.tok<(t.len:Int)
    ·dsimp only;rw [decide_eq_true k2];unfold kO;refine ⟨λ_=>⟨_,ld (h.le _ _ p1) rfl,_,ld (h.le _ _ q6) rfl,h.ix (hs.t.le (aa l3 l35)) (by decide) k1 k2 λa cc y hy hr hc=>⟨cc,Mem.len hc,hr,?_⟩⟩,λh=>(by cases h)⟩;refine h.runv (kq hc) λG11 F11 l11 h=>⟨_,rfl,λk3=>⟨_,ld (h.le _ _ (l11 _ _ p1)) rfl,_,ld (h.le _ _ (l11 _ _ q6)) rfl,h.ix (hs.t.le (aa l3 (aa l35 l11))) (by decide) k1 k2 λa cc z hz hr hc=>⟨cc,Mem.len hc,hr,?_⟩⟩,λk3=> ?_⟩
     ·rw [hy] at hz;cases hz;refine h.runv (ku hc) λG12 F12 l12 h=>⟨_,rfl,?_⟩;refine j2 _ _ _ _ _ _ _ G12 F12 (aa l35 (aa l11 l12)) h ?_;rw [Bool.not_not,δ];constructor
      ·rintro ⟨hlit,e1,e2,e3,e4,_⟩;exact ⟨hF.1 hft,.inr (.inr ⟨k5,⟨ha,k1,y,hy,ε k3,hlit⟩,e1,e2,e3,e4⟩)⟩
      ·intro hok;rcases hok.2 with h'|h'|h'
       ·omega
       ·omega
       ·obtain ⟨_,_,u,hu,_,hul⟩:=h'.2.1;rw [hy] at hu;cases hu;exact ⟨hul,h'.2.2.1,h'.2.2.2.1,h'.2.2.2.2.1,h'.2.2.2.2.2,rfl,rfl⟩
     ·refine j2 _ _ _ _ _ _ _ G11 F11 (aa l35 l11) h ⟨λh=>(by cases h.1),λhok=>absurd hok (bad' λh=> ?_)⟩;obtain ⟨_,_,u,hu,hul,_⟩:=h;rw [hy] at hu;cases hu;exact η k3 hul
    ·dsimp only;rw [decide_eq_false k2];refine j5f G10 F10 l35 h (bad' λh=> ?_);obtain ⟨_,_,u,hu,_,_⟩:=h;have:=(N6.1 hu).1;omega
   ·refine j2 _ _ _ _ _ _ _ G5 F9 l35 h ⟨λh=>(by cases h.1),λhok=> ?_⟩;have:¬(x.k=3\/x.k=4):=λh=>by rw [hb.2 h] at hbf;cases hbf
    rcases hok.2 with h'|h'|h'<;>omega
  have j3:∀(b:Bool),(b=Y8↔x.k=1\/x.k=2)->wi N b1 b6 fit b8 f (k:Int) x.k b (λr F'=>r=vi (if ∀x∈g.fils,ce g x then 0 else 53)/\F.le F') F9:=λb hb=>by
   unfold wi;refine ⟨λhbt=> ?_,λhbf=> ?_⟩
   ·have hk:=hb.1 hbt;refine h.set0 (w':=qW 0 0 x.pos x.ch x.left x.tok tt Zi 0) (by simp) rfl λF10 h=> ?_;refine h.set0 (w':=qW 0 0 0 x.ch x.left x.tok tt Zi 0) (by simp) rfl λF11 h=> ?_;refine h.set0 (w':=qW 0 0 0 0 x.left x.tok tt Zi 0) (by simp) rfl λF12 h=> ?_;refine ⟨λhft=>⟨_,rfl,ac (h.le _ _ (l35 _ _ (l3 _ _ q1))),_,rfl,ac (h.le _ _ q6),?_⟩,λhff=> ?_⟩
    ·refine h.runv (DX (hg0.le (aa l3 l35)) (Mem.le l35 hc0)) λG10 F10 l10 h=>⟨_,rfl,?_⟩;refine j2 _ _ _ _ _ _ _ G10 F10 (aa l35 l10) h ?_;rw [δ];constructor
     ·rintro ⟨ha,_,_,_,e4,e5,e6⟩;exact ⟨hF.1 hft,.inl ⟨hk,ha,e4,e5,nil6.1 e6⟩⟩
     ·intro hok;rcases hok.2 with h'|h'|h'
      ·exact ⟨h'.2.1,rfl,rfl,rfl,h'.2.2.1,h'.2.2.2.1,nil6.2 h'.2.2.2.2⟩
      ·omega
      ·omega
    ·exact j2 _ _ _ _ _ _ _ G5 F12 l35 h ⟨λh=>(by cases h.1),λhok=>by rw [hF.2 hok.1] at hff;cases hff⟩
   ·have hn:¬(x.k=1\/x.k=2):=λh=>by rw [hb.2 h] at hbf;cases hbf
    exact ⟨λe=>j4 _ (by rw [δ];omega) hn,λe=>j4 _ (by rw [δ];omega) hn⟩
  exact ⟨λe=>j3 _ (by rw [δ];omega),λe=>j3 _ (by rw [δ];omega)⟩
 ·have e:k=g.fils.length:=by omega
  subst e;rw [Xg] at hi;unfold Gf;exact ⟨by rw [Χ hi],aa l1 (aa l3 h.le)⟩
def zJ (n:Nat) (done:List ο) (t:Tk):Prop:=t.name≠emp/\t.name ∉ done/\0<=t.cls/\t.cls<=2/\iD t.cond n/\(t.lit≠emp->t.smp=emp/\t.pat=[])/\
 (t.lit=emp->fH t.pat=0/\(t.cls=0->t.smp≠emp/\LgL t.pat (bs t.smp))/\(t.cls≠0->t.smp=emp))
def di (n:Nat) (done:List ο):List Tk->Prop
 |[]=>True
 |t::r=>zJ n done t/\di n (done++[t.name]) r
open Classical in
theorem nu {F:PH} {v:Γ} {g:Gr} (hT:Tab F) (hg:GV F v g) (hl:bM g=Y6) (hz:Sz g):ν 90 #[Y9 v] F λr F'=>r=vi (if di g.YY.length [] g.YX then 0 else 51)/\F.le F':=by
 obtain ⟨_,hlt',_⟩:=eY hl;obtain ⟨c,n,t,s,p,lv,f,rfl,hs⟩:=hg;have ec:=hs.c.len;have et:=hs.t.len;refine V9 ?_;unfold R9;refine fresh λb1 F1 l1 q1 _=> ?_;have hs:=hs.le l1;have hT:=hT.le l1;refine (iB F1).mono ?_;rintro _ F2 ⟨G2,bn,m,rfl,l2,hcn,h⟩;refine ⟨_,rfl,_,ld (h.le _ _ (l2 _ _ q1)) rfl,?_⟩;refine bh (zZ · b1 (xK bn) t _) g.YX.length (λk F'=>∃G,G2.le G/\St G F' [bG m ((g.YX.take k).map Tk.name).reverse]/\(di g.YY.length [] g.YX↔di g.YY.length ((g.YX.take k).map Tk.name) (g.YX.drop k)))
  ⟨G2,am _,h,by simp⟩ ?_
 rintro k F3 N hk ⟨G3,l3,h,hE⟩ next;have l13:=aa l2 l3;unfold zZ;refine ⟨λhlt=> ?_,λhge=> ?_⟩
 ·have hlt:k<g.YX.length:=by omega
  refine h.ix (hs.t.le l13) (by decide) (by omega) (by omega) λa cc x hx hr hc=> ?_;rw [N4] at hx;have hxm:x∈g.YX:=W7 hx;have hxz:=hz.t x hxm;rw [bP hx,di] at hE;have hst:=Mem.st hc;obtain ⟨pp,nn,rfl,h1,h2⟩:=hc;have epp:=h1.len;refine ⟨x.arr pp nn,rfl,hr,?_⟩;refine h.var hst λb5 G4 F4 l4 q5 h=> ?_;have bad:∀{F'},G3.le F'->¬zJ g.YY.length ((g.YX.take k).map Tk.name) x->(vi 51=vi (if di g.YY.length [] g.YX then 0 else 51)/\F.le F'):=λ{F'} l hn=>⟨by rw [Υ (λh=>hn (hE.1 h).1)],aa l1 (aa l13 l)⟩;refine ⟨_,ld (h.le _ _ q5) rfl,?_⟩;refine pf h (aI (aa l3 l4) hcn) x.name λG5 F5 l5 h=>⟨_,rfl,λhb=>bad (aa l4 (aa l5 h.le)) λhn=> ?_,λhb=> ?_⟩
  ·rw [ζ ⟨hn.1,hn.2.1⟩] at hb;cases hb
  have hnm:x.name≠emp/\x.name ∉ (g.YX.take k).map Tk.name:=by simpa using hb
  have l35:=aa l4 l5;have q5:=l5 _ _ q5;refine ⟨_,ld (h.le _ _ q5) rfl,λhb=>bad (aa l35 h.le) λhn=>by have:=hn.2.2.1;omega,λc0=>⟨_,ld (h.le _ _ q5) rfl,λhb=>bad (aa l35 h.le) λhn=>by have:=hn.2.2.2.1;omega,λc2=>⟨#[nn.v,vi x.cond.2],rfl,je (h.le _ _ q5) rfl,_,ld (h.le _ _ (l35 _ _ (l13 _ _ q1))) rfl,?_⟩⟩⟩;dsimp only;rw [ec];refine h.runv (g0 (d:=x.cond) (DV.mk (h2.le l35))) λG6 F6 l6 h=>⟨_,rfl,λhb=>bad (aa l35 (aa l6 h.le)) λhn=> ?_,λhb=> ?_⟩
  ·rw [bD.2 hn.2.2.2.2.1] at hb;cases hb
  have hfit:iD x.cond g.YY.length:=bD.1 (by simpa using hb);have l35:=aa l35 l6;have q5:=l6 _ _ q5;have e:(g.YX.take k).map Tk.name++[x.name]=(g.YX.take (k+1)).map Tk.name:=by rw [aO hx,Xt];rfl
  have j2:∀(fine:Bool) G9 F9,G3.le G9->St G9 F9 [bG m ((g.YX.take k).map Tk.name++[x.name]).reverse]->(fine=Y8↔zJ g.YY.length ((g.YX.take k).map Tk.name) x)->
    jw N b1 (xK bn) t (k:Int) fine (λr F'=>r=vi (if di g.YY.length [] g.YX then 0 else 51)/\F.le F') F9:=λfine G9 F9 l9 h hiff=>by
   unfold jw;refine ⟨λhb=>bad (aa l9 h.le) λhn=>(by rw [hiff.2 hn] at hb;cases hb),λhb=> ?_⟩;rw [aA hlt];have hok:=hiff.1 (by simpa using hb);rw [e] at h hE;exact next _ hlt ⟨G9,aa l3 l9,h,hE.trans ⟨λh=>h.2,λh=>⟨hok,h⟩⟩⟩
  refine ⟨_,ld (h.le _ _ q5) rfl,_,ld (h.le _ _ q5) rfl,λhlit=> ?_,λhlit=> ?_⟩
  ·rw [gY] at hlit;have hlit:x.lit≠emp:=by simpa using hlit
   rw [gY];refine ⟨λhsm=>⟨_,ld (h.le _ _ q5) rfl,?_⟩,λhsm=> ?_⟩
   ·have hsm:=ε hsm;refine j2 _ G6 F6 l35 h ?_;rw [δ];constructor
    ·intro h0;exact ⟨hnm.1,hnm.2,by omega,by omega,hfit,λ_=>⟨hsm,Xp (by omega)⟩,λh=>absurd h hlit⟩
    ·intro hok;rw [(hok.2.2.2.2.2.1 hlit).2] at epp;simp at epp;omega
   ·have hsm:=η hsm;exact j2 _ G6 F6 l35 h ⟨λh=>(by cases h),λhok=>absurd (hok.2.2.2.2.2.1 hlit).1 hsm⟩
  ·rw [gY] at hlit;have hlit:x.lit=emp:=by simpa using hlit
   refine ⟨_,ld (h.le _ _ q5) rfl,?_⟩;refine h.runv (oA (RL.nds.1 (h1.le l35))) λG7 F7 l7 h=>⟨_,rfl,λhp=>j2 _ G7 F7 (aa l35 l7) h ⟨λh=>(by cases h),λhok=>absurd (hok.2.2.2.2.2.2 hlit).1 hp⟩,λhp=>⟨_,ld (h.le _ _ (l7 _ _ q5)) rfl,?_⟩⟩;have hp:=Classical.not_not.1 hp;have l35:=aa l35 l7;have q5:=l7 _ _ q5;have mk:((x.cls=0->x.smp≠emp/\LgL x.pat (bs x.smp))/\(x.cls≠0->x.smp=emp))->zJ g.YY.length ((g.YX.take k).map Tk.name) x:=λhm=>⟨hnm.1,hnm.2,by omega,by omega,hfit,λh=>absurd hlit h,λ_=>⟨hp,hm⟩⟩;rw [gY];refine ⟨λhc0=>⟨λhsm=>⟨_,ld (h.le _ _ q5) rfl,_,ld (h.le _ _ q5) rfl,?_⟩,λhsm=> ?_⟩,λhc0=> ?_⟩
   ·have hsm:x.smp≠emp:=by simpa using hsm
    refine (h.call (tw (hT.le (aa l13 l35)) (RL.nds.1 (h1.le l35)) x.smp (by omega))).mono ?_;rintro _ F8 ⟨G8,⟨⟨q,rfl,hq⟩,l8⟩,h⟩;refine ⟨_,rfl,j2 _ G8 F8 (aa l35 l8) h ?_⟩;rw [hq];exact ⟨λhm=>mk ⟨λ_=>⟨hsm,hm.2⟩,λh=>absurd hc0 h⟩,λhok=>⟨hp,((hok.2.2.2.2.2.2 hlit).2.1 hc0).2⟩⟩
   ·have hsm:x.smp=emp:=by simpa using hsm
    exact j2 _ G7 F7 l35 h ⟨λh=>(by cases h),λhok=>absurd hsm ((hok.2.2.2.2.2.2 hlit).2.1 hc0).1⟩
   ·refine j2 _ G7 F7 l35 h ?_;rw [δ];exact ⟨λhm=>mk ⟨λh=>absurd h hc0,λ_=>hm⟩,λhok=>(hok.2.2.2.2.2.2 hlit).2.2 hc0⟩
 ·have e:k=g.YX.length:=by omega
  subst e;rw [XQ,di] at hE;unfold FZ;exact ⟨by rw [Χ (hE.2 trivial)],aa l1 (aa l13 h.le)⟩
open Classical in
def hX (g:Gr):Int:=
 if bM g=Y8 then 2 else if ¬gc g then 54 else if ¬di g.YY.length [] g.YX then 51 else if ¬eW g then 50 else if cN g [] g.YV≠0 then cN g [] g.YV
 else if ¬dc g [] g.lvs then 53 else if ¬∀x∈g.fils,ce g x then 53 else 0
structure OkG (g:Gr):Prop where
 large:bM g=Y6
 fam:gc g
 YX:di g.YY.length [] g.YX
 YW:eW g
 YV:cN g [] g.YV=0
 lvs:dc g [] g.lvs
 fils:∀x∈g.fils,ce g x
theorem pg {g:Gr}:hX g=0↔OkG g:=by
 unfold hX;constructor
 ·intro h;split at h
  ·cases h
  ·rename_i h1;split at h
   ·cases h
   ·rename_i h2;split at h
    ·cases h
    ·rename_i h3;split at h
     ·cases h
     ·rename_i h4;split at h
      ·rename_i h5;exact absurd h h5
      ·rename_i h5;split at h
       ·cases h
       ·rename_i h6;split at h
        ·cases h
        ·rename_i h7;exact ⟨by simpa using h1,Classical.not_not.1 h2,Classical.not_not.1 h3,Classical.not_not.1 h4,Classical.not_not.1 h5,Classical.not_not.1 h6,Classical.not_not.1 h7⟩
 ·rintro ⟨h1,h2,h3,h4,h5,h6,h7⟩;rw [Υ (by simp [h1]),Υ (λh=>h h2),Υ (λh=>h h3),Υ (λh=>h h4),Υ (λh=>h h5),Υ (λh=>h h6),Υ (λh=>h h7)]
theorem Jx:aC prog 89=Y8/\aC prog 90=Y8/\aC prog 91=Y8/\aC prog 92=Y8/\aC prog 93=Y8/\aC prog 94=Y8:=by refine ⟨?_,?_,?_,?_,?_,?_⟩<;>kernel_rfl
open Classical in
def xO (g:Gr) (k:Nat):Int:=match k with
 |0=>if gc g then 0 else 54
 |1=>if di g.YY.length [] g.YX then 0 else 51
 |2=>if eW g then 0 else 50
 |3=>cN g [] g.YV
 |4=>if dc g [] g.lvs then 0 else 53
 |_=>if ∀x∈g.fils,ce g x then 0 else 53
def BG (k:Nat):Nat:=match k with
 |0=>89
 |1=>90
 |2=>91
 |3=>92
 |4=>93
 |_=>94
theorem DY {F:PH} {v:Γ} {g:Gr} (hT:Tab F) (hg:GV F v g) (hl:bM g=Y6) (hz:Sz g) (k:Nat):aC prog (BG k)=Y8/\ai prog (BG k) #[Y9 v] F λr F'=>r=vi (xO g k)/\F.le F':=by
 obtain ⟨c1,c2,c3,c4,c5,c6⟩:=Jx;have hb:=eY hl
 match k with
 |0=>exact ⟨c1,nk hg hz hb.1⟩
 |1=>exact ⟨c2,nu hT hg hl hz⟩
 |2=>exact ⟨c3,qR hg hb.2.2.2.1⟩
 |3=>exact ⟨c4,oR hg hl⟩
 |4=>exact ⟨c5,nr hg hl hz⟩
 |n+5=>exact ⟨c6,lA hg hl hz⟩
theorem nz0 {p:Prop} [Decidable p] {a:Int} (ha:a≠0) (h:(if p then 0 else a)=0):p:=by
 by_cases hp:p
 ·exact hp
 ·rw [Υ hp] at h;exact absurd h ha
open Classical in
theorem xP {F:PH} {v:Γ} {g:Gr} (hT:Tab F) (hg:GV F v g) (hz:Sz g):ν 36 #[Y9 v] F λr F'=>r=vi (hX g)/\F.le F':=by
 refine V6 ?_;unfold R3;refine fresh λb1 F1 l1 q1 _=>⟨v,hg.size,ac q1,?_⟩;refine (zE (hg.le l1)).mono ?_;rintro _ F2 ⟨rfl,l2⟩;have l1:=aa l1 l2;have q1:=l2 _ _ q1;refine ⟨_,rfl,λhb=>⟨?_,l1⟩,λhb=> ?_⟩
 ·unfold hX;rw [Χ hb]
 refine fresh λb9 F3 l3 q9 _=> ?_;have l1:=aa l1 l3;have q1:=l3 _ _ q1;have hfin:∀k,k<6->(∀j,j<k->xO g j=0)->xO g k≠0->hX g=xO g k:=λk hk hj hne=>by
  have s0:0<k->gc g:=λh=>nz0 (a:=54) (by decide) (hj 0 h);have s1:1<k->di g.YY.length [] g.YX:=λh=>nz0 (a:=51) (by decide) (hj 1 h);have s2:2<k->eW g:=λh=>nz0 (a:=50) (by decide) (hj 2 h);have s3:3<k->cN g [] g.YV=0:=λh=>hj 3 h;have s4:4<k->dc g [] g.lvs:=λh=>nz0 (a:=53) (by decide) (hj 4 h);unfold hX;rw [Υ (by simp [hb])]
  match k,hk with
  |0,_=>have hn:¬gc g:=λh=>hne (Χ h);rw [Χ hn];exact (Υ hn).symm
  |1,_=>have hn:¬di g.YY.length [] g.YX:=λh=>hne (Χ h);rw [Υ (λh=>h (s0 (by decide))),Χ hn];exact (Υ hn).symm
  |2,_=>have hn:¬eW g:=λh=>hne (Χ h);rw [Υ (λh=>h (s0 (by decide))),Υ (λh=>h (s1 (by decide))),Χ hn];exact (Υ hn).symm
  |3,_=>rw [Υ (λh=>h (s0 (by decide))),Υ (λh=>h (s1 (by decide))),Υ (λh=>h (s2 (by decide))),Χ (show cN g [] g.YV≠0 from hne)];rfl
  |4,_=>have hn:¬dc g [] g.lvs:=λh=>hne (Χ h);rw [Υ (λh=>h (s0 (by decide))),Υ (λh=>h (s1 (by decide))),Υ (λh=>h (s2 (by decide))),Υ (λh=>h (s3 (by decide))),Χ hn];exact (Υ hn).symm
  |5,_=>have hn:¬∀x∈g.fils,ce g x:=λh=>hne (Χ h);rw [Υ (λh=>h (s0 (by decide))),Υ (λh=>h (s1 (by decide))),Υ (λh=>h (s2 (by decide))),Υ (λh=>h (s3 (by decide))),Υ (λh=>h (s4 (by decide))),Χ hn];exact (Υ hn).symm
 refine bh (zX · b1 b9 _) 6 (λk F'=>F3.le F'/\∀j,j<k->xO g j=0) ⟨am _,λj h=>by omega⟩ ?_;rintro k F4 N hk ⟨l4,hi⟩ next;unfold zX;refine ⟨λhlt=> ?_,λhge=> ?_⟩
 ·have hlt:k<6:=by simp only at hlt;omega
  refine ⟨_,rfl,by omega,by simp only;omega,.func (.func (BG k)) #[] #[],?_,v,hg.size,ac (l4 _ _ q1),BG k,#[],#[],rfl,?_⟩
  ·rw [N4,aE,aq (l4 _ _ q9)]
   match k,hlt with
   |0,_=>rfl
   |1,_=>rfl
   |2,_=>rfl
   |3,_=>rfl
   |4,_=>rfl
   |5,_=>rfl
  ·obtain ⟨h1,h2⟩:=DY (hT.le (aa l1 l4)) (hg.le (aa l1 l4)) hb hz k;refine ⟨h1,?_⟩;have e:(#[]:Γ)++[Y9 v].toArray++ #[]= #[Y9 v]:=by simp
   dsimp only;rw [e];refine h2.mono ?_;rintro _ F5 ⟨rfl,l5⟩;refine ⟨_,rfl,λhne=>⟨by rw [hfin k hlt hi hne],aa l1 (aa l4 l5)⟩,λhz0=> ?_⟩;rw [aA hlt];refine next _ hlt ⟨aa l4 l5,λj hj=> ?_⟩;by_cases e:j=k
   ·rw [e];exact Classical.not_not.1 hz0
   ·exact hi j (by omega)
 ·have e:k=6:=by simp only at hge;omega
  subst e;unfold FX;refine ⟨?_,aa l1 l4⟩;rw [pg.2 ⟨hb,nz0 (a:=54) (by decide) (hi 0 (by decide)),nz0 (a:=51) (by decide) (hi 1 (by decide)),nz0 (a:=50) (by decide) (hi 2 (by decide)),hi 3 (by decide),nz0 (a:=53) (by decide) (hi 4 (by decide)),nz0 (a:=53) (by decide) (hi 5 (by decide))⟩]
section
end
section
end
structure Sm (g:Gr):Prop where
 c:g.YY.length<=1000000000
 n:g.fam.1.length<=1000000000
 t:g.YX.length<=1000000000
 s:g.YW.length<=1000000000
 p:g.YV.length<=1000000000
 l:g.lvs.length<=1000000000
 f:g.fils.length<=1000000000
 ti:∀x∈g.YX,x.pat.length<=1000000000/\x.cond.1.length<=1000000000
 pi:∀x∈g.YV,x.right.length<=1000000000/\x.cond.1.length<=1000000000/\x.lay.length<=1000000000
 li:∀x∈g.lvs,x.ps.length<=1000000000/\x.cond.1.length<=1000000000
 fi:∀x∈g.fils,x.YX.length<=1000000000/\x.cond.1.length<=1000000000
structure SlT (t e:TypeId) (n bytes:Nat) (z:Value):Prop where
 ht:prog.underlying t=Y3 (.slice e)
 hsz:tsz prog e=Y3 (n,bytes)
 hz:bO prog e=Y3 z
 hzs:z.cells.size=n
 hn:0<n
 hb:bytes<=250
theorem FG {n m b:Nat} (hb:b<=250) (h:n+m<=500000000000):(n+m)*b<=140737488355328:=
 X4 (Nat.mul_le_mul h hb) (by decide)
theorem St.appAt {G F:PH} {As:List (Ψ)} {t e n bytes:Nat} {z:ξ} (T:SlT t e n bytes z) {s x:Sl} {olds news:Ξ} {ty:TypeId} (h:St G F As) (i:Nat) (hi:As[i]? =Y3 (own s e n olds)) (hx:RdS F x n news) (hst:∀v∈news,ak v)
  (hlen:s.len+x.len<=500000000000) {K:Sl->Ψ} (k:∀s' F',St G F' (As.set i (own s' e n (olds++news)))->s'.len=s.len+x.len->K s' F'):
  aF prog (Builtin.append_ #[t,t] ty #[s.v,x.v]) F λv F=>∃s':Sl,v=Y7 s'/\K s' F:=by
 obtain ⟨H,a1,a2,a3,a4⟩:=h.set (A':=own s e n olds) hi;have ho:=(h.ownAt hi).1;by_cases h0:x.len=0
 ·have hnil:news=[]:=Xp (by rw [hx.len,h0,Yf]);subst hnil;refine oH T.ht T.hsz T.hz T.hzs ho hx h0 (by have:=FG (n:=s.len) (m:=0) T.hb (by omega);simpa using this) (by omega) ⟨s,rfl,k s F ?_ (by omega)⟩;rw [XH];exact a4 H F a1 (λb hb=> .inl hb) a3 (λb o hb _=>hb)
 ·refine sF T.ht T.hsz T.hz T.hzs T.hn ho hx (by omega) hst (FG T.hb hlen) (by omega) ?_;rintro s' F' b ob rfl ho' hl' hbase hb;obtain ⟨H,a1,a2,a3,a4⟩:=h.set (A':=own s' e n (olds++news)) hi;have hb':H b≠Y5\/F b=Y5:=by
   rcases hb with ⟨a,ha,rfl⟩|hb
   ·obtain ⟨cur,hc⟩:=bV.elem a1 ha;exact .inl (by rw [hc];simp)
   ·exact .inr hb
  refine ⟨s',rfl,k s' _ ?_ hl'⟩;refine a4 (PH.set (λ_=>Y5) b ob) _ (ho'.keep λa ha=>by rw [hbase a ha,al,al]) (λx hx=> ?_) (λx p hx=> ?_) (λx p hx hn=> ?_)
  ·by_cases e:x=b
   ·rw [e];exact hb'
   ·rw [az _ _ e] at hx;exact absurd rfl hx
  ·by_cases e:x=b
   ·rw [e,al] at hx ⊢;exact hx
   ·rw [az _ _ e] at hx;cases hx
  ·have e:x≠b:=λe=>by
    subst e;rcases hb' with h|h
    ·exact h hn
    ·rw [h] at hx;cases hx
   rw [az _ _ e];exact hx
namespace St
section
variable {G F:PH} {As:List (Ψ)} {t e n bytes:Nat} {z:ξ}
theorem pinOwn {s:Sl} {vs:Ξ} (h:St G F (own s e n vs::As)) {K:Ψ} (k:∀G',G.le G'->RdS G' s n vs->St G' F As->K F):K F:=by obtain ⟨G',h1,⟨H,hA,hH⟩,h2⟩:=h.pin;exact k G' h1 ((bV.rd hA).le hH) h2
theorem app0 (T:SlT t e n bytes z) {s x:Sl} {olds news:Ξ} {ty:TypeId} (h:St G F (own s e n olds::As)) (hx:RdS F x n news) (hst:∀v∈news,ak v) (hlen:s.len+x.len<=500000000000) {K:Sl->Ψ}
  (k:∀s' F',St G F' (own s' e n (olds++news)::As)->s'.len=s.len+x.len->K s' F'):
  aF prog (Builtin.append_ #[t,t] ty #[s.v,x.v]) F λv F=>∃s':Sl,v=Y7 s'/\K s' F:=h.appAt T 0 rfl hx hst hlen k
theorem push0 (T:SlT t e n bytes z) {s:Sl} {olds:Ξ} {c:Γ} {ty:TypeId} (h:St G F (own s e n olds::As)) (hc:c.size=n) (hst:∀v∈c.toList,ak v) (hlen:s.len<=400000000000) {K:Sl->Ψ}
  (k:∀s' G' F',G.le G'->St G' F' (own s' e n (olds++c.toList)::As)->s'.len=s.len+1->K s' F'):
  ∀b,F b=Y5->atF (F.set b (Y4 c e)) λF=>aF prog (Builtin.append_ #[t,t] ty #[s.v,Y7 (Zj (Y3 (Zc b 0 Y5)) 1 1)]) F λv F=>∃s':Sl,v=Y7 s'/\K s' F:=by
 refine h.newG λb G' F' l q _ h=> ?_;have hx:RdS F' (Zj (Y3 (Zc b 0 Y5)) 1 1) n c.toList:=RdS.new (h.le _ _ q) (Xf (by rw [Xb,hc,YA];exact W8 _)) (by rw [Xb,hc,YA]) (W8 _);exact h.app0 T hx hst (by show s.len+1<=_;omega) λs' F'' h' hl'=>k s' G' F'' l h' hl'
theorem app1 {p0:Ψ} (T:SlT t e n bytes z) {s x:Sl} {olds news:Ξ} {ty:TypeId} (h:St G F (p0::own s e n olds::As)) (hx:RdS F x n news) (hst:∀v∈news,ak v) (hlen:s.len+x.len<=500000000000) {K:Sl->Ψ}
  (k:∀s' F',St G F' (p0::own s' e n (olds++news)::As)->s'.len=s.len+x.len->K s' F'):
  aF prog (Builtin.append_ #[t,t] ty #[s.v,x.v]) F λv F=>∃s':Sl,v=Y7 s'/\K s' F:=h.appAt T 1 rfl hx hst hlen k
theorem push1 {p0:Ψ} (T:SlT t e n bytes z) {s:Sl} {olds:Ξ} {c:Γ} {ty:TypeId} (h:St G F (p0::own s e n olds::As)) (hc:c.size=n) (hst:∀v∈c.toList,ak v) (hlen:s.len<=400000000000) {K:Sl->Ψ}
  (k:∀s' G' F',G.le G'->St G' F' (p0::own s' e n (olds++c.toList)::As)->s'.len=s.len+1->K s' F'):
  ∀b,F b=Y5->atF (F.set b (Y4 c e)) λF=>aF prog (Builtin.append_ #[t,t] ty #[s.v,Y7 (Zj (Y3 (Zc b 0 Y5)) 1 1)]) F λv F=>∃s':Sl,v=Y7 s'/\K s' F:=by
 refine h.newG λb G' F' l q _ h=> ?_;have hx:RdS F' (Zj (Y3 (Zc b 0 Y5)) 1 1) n c.toList:=RdS.new (h.le _ _ q) (Xf (by rw [Xb,hc,YA];exact W8 _)) (by rw [Xb,hc,YA]) (W8 _);exact h.app1 T hx hst (by show s.len+1<=_;omega) λs' F'' h' hl'=>k s' G' F'' l h' hl'
theorem app2 {p0 p1:Ψ} (T:SlT t e n bytes z) {s x:Sl} {olds news:Ξ} {ty:TypeId} (h:St G F (p0::p1::own s e n olds::As)) (hx:RdS F x n news) (hst:∀v∈news,ak v) (hlen:s.len+x.len<=500000000000) {K:Sl->Ψ}
  (k:∀s' F',St G F' (p0::p1::own s' e n (olds++news)::As)->s'.len=s.len+x.len->K s' F'):
  aF prog (Builtin.append_ #[t,t] ty #[s.v,x.v]) F λv F=>∃s':Sl,v=Y7 s'/\K s' F:=h.appAt T 2 rfl hx hst hlen k
theorem push2 {p0 p1:Ψ} (T:SlT t e n bytes z) {s:Sl} {olds:Ξ} {c:Γ} {ty:TypeId} (h:St G F (p0::p1::own s e n olds::As)) (hc:c.size=n) (hst:∀v∈c.toList,ak v) (hlen:s.len<=400000000000) {K:Sl->Ψ}
  (k:∀s' G' F',G.le G'->St G' F' (p0::p1::own s' e n (olds++c.toList)::As)->s'.len=s.len+1->K s' F'):
  ∀b,F b=Y5->atF (F.set b (Y4 c e)) λF=>aF prog (Builtin.append_ #[t,t] ty #[s.v,Y7 (Zj (Y3 (Zc b 0 Y5)) 1 1)]) F λv F=>∃s':Sl,v=Y7 s'/\K s' F:=by
 refine h.newG λb G' F' l q _ h=> ?_;have hx:RdS F' (Zj (Y3 (Zc b 0 Y5)) 1 1) n c.toList:=RdS.new (h.le _ _ q) (Xf (by rw [Xb,hc,YA];exact W8 _)) (by rw [Xb,hc,YA]) (W8 _);exact h.app2 T hx hst (by show s.len+1<=_;omega) λs' F'' h' hl'=>k s' G' F'' l h' hl'
end
end St
section
end
theorem QI:SlT 28 9 1 16 (.string ⟨#[]⟩):=⟨underlying28,sz9,zr9,rfl,by decide,by decide⟩
theorem QJ:SlT 67 3 1 8 (.int .i64 0):=⟨underlying67,sz3,zr3,rfl,by decide,by decide⟩
theorem VF:∃b z,SlT 50 63 2 b z:=⟨_,_,underlying50,Uy,UC,rfl,by decide,by decide⟩
theorem QM:∃b z,SlT 32 146 7 b z:=⟨_,_,underlying32,Uz,UD,rfl,by decide,by decide⟩
theorem Ob:∃b z,SlT 33 55 13 b z:=⟨_,_,underlying33,Ux,UB,rfl,by decide,by decide⟩
theorem VG:∃b z,SlT 34 69 4 b z:=⟨_,_,underlying34,WD,WF,rfl,by decide,by decide⟩
theorem VH:∃b z,SlT 35 156 9 b z:=⟨_,_,underlying35,UA,UE,rfl,by decide,by decide⟩
section
end
open Tr
section
section
end
instance (t:Tr):Decidable (t=Y0 Y6):=match t with
 |Y0 Y8=>isFalse (by simp)
 |Y0 Y6=>isTrue rfl
 |Y1 _ _ _=>isFalse (by simp)
theorem DZ {d:Dia} {n:Nat} (h:iD d n):∃t:Tr,t.ok/\d=dia t/\tre d=t/\(bi t).length<=4096/\eH n t:=by
 obtain ⟨h1,h2⟩:=h;unfold chk at h1;split at h1
 ·cases h1
 ·rename_i hl;split at h1
  ·rename_i hv;obtain ⟨t,ht,rfl⟩:=hv;refine ⟨t,ht,rfl,iE ht,by simpa [dia,aN] using hl,?_⟩;refine rM (bF ht) (λx hx=> ?_) t (bW ht);obtain ⟨_,v,l,r,rfl,_,_⟩:=(bF ht).mem x hx;have:=h2 (br (bi t) (Y1 v l r)) (Xi.2 ⟨_,hx,rfl⟩);simp only [br] at this;simp only [top];omega
  ·cases h1
abbrev vB (n:Nat):Value:=Zf .u8 (n:Int)
theorem D0 (a:Addr) (i j:Nat):Zb (Zb a i) j=Zb a (i+j):=by
 unfold Zb;by_cases hi:i=0
 ·simp [hi]
 ·by_cases hj:j=0
  ·simp [hj]
  ·simp [hi,hj,Nat.add_assoc]
theorem BH {F:PH} {a:Addr} {c d:Γ} {o:Nat} (h:F.row a c) (hd:(c.toList.drop o).take d.size=d.toList):F.row (a.add o) d:=by intro i hi;rw [D0];have:=congrArg (λl=>l[i]?) hd;simp only [XG hi,List.getElem?_drop,Yk] at this;exact bj h (this.trans (by simp [hi]))
section
variable {G:PH} {bc:Nat}
end
theorem St.pinE {G F:PH} {As:List (Ψ)} {b:Nat} {o:Obj} (h:St G F (pt b o::As)):∃G',G.le G'/\G' b=Y3 o/\St G' F As:=by obtain ⟨G',h1,⟨H,hA,hH⟩,h2⟩:=h.pin;exact ⟨G',h1,hH _ _ hA,h2⟩
theorem St.pinO {G F:PH} {As:List (Ψ)} {e n:Nat} {s:Sl} {vs:Ξ} (h:St G F (own s e n vs::As)):∃G',G.le G'/\RdS G' s n vs/\St G' F As:=by obtain ⟨G',h1,⟨H,hA,hH⟩,h2⟩:=h.pin;exact ⟨G',h1,(bV.rd hA).le hH,h2⟩
section
end
variable {R:VR} {F:PH}
set_option maxHeartbeats 4000000
def qX (b c:Nat) (R:VR) (F:PH):Prop:=Lr F 9 (Am c 0) λa=>au F (Am b 0) 9 a λF=>Rr 9 (Am b 0) R F
def zK (k:Ω) (i j h:Nat) (R:VR) (a:Int) (F:PH):Prop:=Ls F (Am i 4) λc=>Bc (a<(c.len:Int)) (Bc (a<6) (Lr F 9 (Am h 0) λd=>Ls F (Am i 4) λb=>Ix b a λe=>Lr F 5 (Zb e (Zd a*5)) λf=>Ca 84 #[Y9 d,Y9 f] F λg F=>F.cell (Am i 4)=Y3 (Y7 b)/\au F (Am h 0) 9 g λF=>k (i64.wrap (a+1)) F) (qX j h R F)) (qX j h R F)
def qY (b c d:Nat) (R:VR) (F:PH):Prop:=Lp 0 F λN a F=>zK N b c d R a F
def zM (m:Ω) (d l:Nat) (e:Int) (k:Nat) (b:Int) (R:VR) (a:Int) (F:PH):Prop:=Ls F (Am d 3) λf=>Bc (a<(f.len:Int)) (Bc (a<b) (Lr F 9 (Am k 0) λg=>Ls F (Am d 3) λc=>Ix c a λh=>Lr F 4 (Zb h (Zd a*4)) λi=>Ca 83 #[Y9 g,Y9 i,Za (decide ((Zk e 8)<6))] F λj F=>F.cell (Am d 3)=Y3 (Y7 c)/\au F (Am k 0) 9 j λF=>m (i64.wrap (a+1)) F) (qY d l k R F)) (qY d l k R F)
def vE (d e:Nat) (b:Int) (f:Nat) (a:Int) (R:VR) (F:PH):Prop:=Lp 0 F λN c F=>zM N d e b f a R c F
def qZ (f g:Nat) (b:Int) (e:Nat) (a:Int) (h:Nat) (c:Bool) (R:VR) (F:PH):Prop:=Bb (c) (Lr F 2 (Am h 0) λd=>au F (Am e 1) 2 d λF=>vE f g b e a R F) (vE f g b e a R F)
def vF (h k:Nat) (b:Int) (j:Nat) (a:Int) (R:VR) (F:PH):Prop:=Ls F (Am h 2) λc=>Ls F (Am j 0) λd=>Ca 82 #[Y7 c,(vi (d.len:Int))] F λe F=>Nb F (Y4 zD 31) λi F=>au F (Am i 0) 2 e λF=>Ls F (Am h 2) λf=>Bc ((0:Int)<(f.len:Int)) (Li F (Am i 1) λg=>qZ h k b j a i (decide (g≠0)) R F) (qZ h k b j a i Y6 R F)
def QN (o:Γ) (R:VR) (F:PH):Prop:=Nb F (Y4 o 26) λj F=>Nb F (Y4 zG 37) λr F=>Lk F .u8 (Am j 0) λc=>Lk F .u8 (Am j 0) λk=>Ca 80 #[Zf .u8 (Zk k 8)] F λl F=>Nb F (Y4 zG 37) λe F=>au F (Am e 0) 9 l λF=>Bc (¬((Zk c 8)<6)) (Nb F (Y4 #[Zg ⟨#[83]⟩,Zg ⟨#[80]⟩,Zg ⟨#[81]⟩] 9) λh F=>Lk F .u8 (Am j 1) λa=>0<=(i64.wrap (1+(Zk (i64.wrap (u8.wrap (Int.tdiv a 4))) 3)))/\0<=(Zd (i64.wrap (1+(Zk (i64.wrap (u8.wrap (Int.tdiv a 4))) 3))))/\(Zd (i64.wrap (1+(Zk (i64.wrap (u8.wrap (Int.tdiv a 4))) 3))))<=(Sb h 3).cap/\Ca 46 #[Y7 (Sl.cut (Sb h 3) 1 0 (Zd (i64.wrap (1+(Zk (i64.wrap (u8.wrap (Int.tdiv a 4))) 3)))) (Sb h 3).cap)] F λm F=>au F (Am e 0) 9 m λF=>Nb F (Y4 #[Zg ⟨#[65]⟩,Zg ⟨#[66]⟩,Zg ⟨#[67]⟩] 9) λi F=>Lk F .u8 (Am j 1) λb=>0<=(i64.wrap (Zk b 4))/\0<=(Zd (i64.wrap (Zk b 4)))/\(Zd (i64.wrap (Zk b 4)))<=(Sb i 3).cap/\sto F (Am e 0) (Y7 (Sl.cut (Sb i 3) 1 0 (Zd (i64.wrap (Zk b 4))) (Sb i 3).cap)) λF=>Ls F (Am e 5) λd=>Ca 48 #[(vi 0)] F λf F=>F.cell (Am e 5)=Y3 (Y7 d)/\f.size=2/\Nb F (Y4 f 63) λp F=>Ca 81 #[Zg ⟨#[102,105,114,115,116]⟩,(vi 0),Y7 (Sb p 1)] F λg F=>F.cell (Am e 5)=Y3 (Y7 d)/\g.size=13/\Nb F (Y4 g 55) λq F=>Ap 33 #[Y7 d,Y7 (Sb q 1)] F λn F=>sto F (Am e 5) (Y7 n) λF=>vF j r c e 10 R F) (vF j r c e 6 R F)
theorem VI {a:Γ} (h:QN a R F):ν 32 #[Y9 a] F R:=Rx.Λ (.Y2 (.Y2 (.Y2 (.Y2 (.J Y6 [(5,.int .i64)] .N (.Y2 (.J Y6 [] (.J Y6 [(57,.bool)] .N .N) (.J Y6 [] (.Y2 (.L [(7,.int .i64)] .N)) (.J Y6 [] (.Y2 (.L [(8,.int .i64)] .N)) .N))))))))) h
def vG (a c:Int) (b:Nat) (d:Bool) (R:VR) (F:PH):Prop:=Bb (d) (Ca 34 #[Za Y8] F λe F=>au F (Am b 0) 2 e λF=>Rr 2 (Am b 0) R F) (c≠0/\Ca 85 #[(vi (Zk (i64.wrap (u8.wrap (Int.tdiv a 6))) c))] F λf F=>Nb F (Y4 zD 31) λk F=>au F (Am k 0) 2 f λF=>Bc ((Zk a 6)=3) (Lr F 2 (Am k 0) λg=>au F (Am b 0) 2 g λF=>Rr 2 (Am b 0) R F) (Bc ((Zk a 6)=4) (Lr F 2 (Am k 0) λh=>Ca 86 #[Y9 h] F λi F=>au F (Am b 0) 2 i λF=>Rr 2 (Am b 0) R F) (Nb F (Y4 #[Zf .u8 a] 5) λl F=>Ca 82 #[Y7 (Sb l 1),(vi c)] F λj F=>au F (Am b 0) 2 j λF=>Rr 2 (Am b 0) R F)))
def QO (a b:Int) (R:VR) (F:PH):Prop:=Nb F (Y4 zD 31) λc F=>Bc (b=0) (vG a b c Y8 R F) (vG a b c (decide ((Zk a 6)<3)) R F)
theorem VJ {a:Int} {b:Int} (h:QO a b R F):ν 33 #[Zf .u8 a,(vi b)] F R:=Rx.Λ (.Y2 (.T (.J Y6 [(12,.bool)] .N .N) .N)) h
def QP (a:Sl) (R:VR) (F:PH):Prop:=Nb F (Y4 zG 37) λe F=>Ca 34 #[Za Y8] F λg F=>Nb F (Y4 zD 31) λf F=>au F (Am f 0) 2 g λF=>Lr F 2 (Am f 0) λb=>((Nb F (Y4 #[Zg ⟨#[65]⟩,Zg ⟨#[66]⟩] 9) λi F=>Cs 111 #[] F λh F=>F.row (Am f 0) b/\b.size=2/\au F (Am e 0) 9 (Zl (Zl (wr (Zl zG 0 (Y7 (Sb i 2))) 1 b.toList) 3 (Y7 h)) 4 (Y7 a)) λF=>Rr 9 (Am e 0) R F)/\(Cs 111 #[] F λc F=>F.row (Am f 0) b/\Nb F (Y4 #[Zg ⟨#[65]⟩,Zg ⟨#[66]⟩] 9) λd F=>b.size=2/\au F (Am e 0) 9 (Zl (Zl (wr (Zl zG 0 (Y7 (Sb d 2))) 1 b.toList) 3 (Y7 c)) 4 (Y7 a)) λF=>Rr 9 (Am e 0) R F))
theorem VK {a:Sl} (h:QP a R F):ν 46 #[Y7 a] F R:=Rx.Λ .N h
def QQ (a:Int) (R:VR) (F:PH):Prop:=Nb F (Y4 (#[Za Y6,vi 0]) 63) λb F=>au F (Am b 0) 2 (#[Za Y8,(vi a)]:Γ) λF=>Rr 2 (Am b 0) R F
theorem VL {a:Int} (h:QQ a R F):ν 48 #[(vi a)] F R:=Rx.Λ .N h
def QR (a:Int) (R:VR) (F:PH):Prop:=Nb F (Y4 (#[Za Y6,vi 0]) 63) λb F=>au F (Am b 0) 2 (#[Za Y6,(vi a)]:Γ) λF=>Rr 2 (Am b 0) R F
theorem VM {a:Int} (h:QR a R F):ν 49 #[(vi a)] F R:=Rx.Λ .N h
def QS (k:Γ) (R:VR) (F:PH):Prop:=Nb F (Y4 k 37) λb F=>Lr F 9 (Am b 0) λl=>Cbo 114 #[Y9 l] F λm F=>Bb (m) (R (vi 2) F) (Lr F 9 (Am b 0) λn=>Cbo 115 #[Y9 n] F λo F=>Bb ((!o)) (R (vi 54) F) (Lr F 9 (Am b 0) λp=>Cbo 116 #[Y9 p] F λc F=>Bb ((!c)) (R (vi 51) F) (Lr F 9 (Am b 0) λd=>Cbo 117 #[Y9 d] F λe F=>Bb ((!e)) (R (vi 50) F) (Lr F 9 (Am b 0) λf=>Ci 118 #[Y9 f] F λa F=>Bc (a≠0) (R (vi a) F) (Lr F 9 (Am b 0) λg=>Cbo 119 #[Y9 g] F λh F=>Bb ((!h)) (R (vi 53) F) (Lr F 9 (Am b 0) λi=>Cbo 120 #[Y9 i] F λj F=>Bb ((!j)) (R (vi 53) F) (R (vi 0) F)))))))
theorem VN {a:Γ} (h:QS a R F):ν 55 #[Y9 a] F R:=Rx.Λ .N h
def QT (b:Int) (R:VR) (F:PH):Prop:=Nb F (Y4 zG 37) λa F=>Bc ((Zk b 6)=0) (Ca 129 #[] F λh F=>au F (Am a 0) 9 h λF=>Rr 9 (Am a 0) R F) (Bc ((Zk b 6)=1) (Ca 130 #[] F λc F=>au F (Am a 0) 9 c λF=>Rr 9 (Am a 0) R F) (Bc ((Zk b 6)=2) (Ca 131 #[] F λd F=>au F (Am a 0) 9 d λF=>Rr 9 (Am a 0) R F) (Bc ((Zk b 6)=3) (Ca 132 #[] F λe F=>au F (Am a 0) 9 e λF=>Rr 9 (Am a 0) R F) (Bc ((Zk b 6)=4) (Ca 133 #[] F λf F=>au F (Am a 0) 9 f λF=>Rr 9 (Am a 0) R F) (Ca 134 #[] F λg F=>au F (Am a 0) 9 g λF=>Rr 9 (Am a 0) R F)))))
theorem VO {a:Int} (h:QT a R F):ν 80 #[Zf .u8 a] F R:=Rx.Λ .N h
def Oc (b:ο) (c:Int) (a:Sl) (R:VR) (F:PH):Prop:=Nb F (Y4 zP 55) λe F=>Ca 34 #[Za Y8] F λd F=>d.size=2/\au F (Am e 0) 13 (wr (Zl (Zl (Zl zP 0 (Zg b)) 1 (vi c)) 2 (Y7 a)) 3 d.toList) λF=>Rr 13 (Am e 0) R F
theorem QU {b:ο} {c:Int} {a:Sl} (h:Oc b c a R F):ν 81 #[Zg b,(vi c),Y7 a] F R:=Rx.Λ .N h
def ra (c b:Nat) (R:VR) (F:PH):Prop:=Lr F 9 (Am c 0) λa=>au F (Am b 0) 9 a λF=>Rr 9 (Am b 0) R F
def gL (h z o:Nat) (y:Θ) (p:Bool) (R:VR) (F:PH):Prop:=Bb (p) (Lr F 9 (Am h 0) λq=>au F (Am o 0) 9 q λF=>Rr 9 (Am o 0) R F) (Lk F .u8 (Am z 2) λr=>Ls F (Am h 0) λs=>Ca 33 #[Zf .u8 r,(vi (s.len:Int))] F λt F=>∃b,y=Y3 b/\au F (Zb b 3) 2 t λF=>Lr F 13 b λu=>Lk F .u8 (Am z 3) λv=>Ca 136 #[Y9 u,Zf .u8 v] F λw F=>au F b 13 w λF=>Ls F (Am h 5) λc=>Lr F 13 b λa=>((Nb F (Y4 #[] 55) λl F=>((Ap 33 #[Y7 (Sb l 0),Y7 c] F λm F=>F.row b a/\a.size=13/\Nb F (Y4 a 55) λx F=>Ap 33 #[Y7 m,Y7 (Sb x 1)] F λn F=>sto F (Am h 5) (Y7 n) λF=>ra h o R F)/\(a.size=13/\Nb F (Y4 a 55) λi F=>Ap 33 #[Y7 (Sb l 0),Y7 c] F λd F=>Ap 33 #[Y7 d,Y7 (Sb i 1)] F λe F=>sto F (Am h 5) (Y7 e) λF=>ra h o R F)))/\(a.size=13/\Nb F (Y4 a 55) λj F=>Nb F (Y4 #[] 55) λk F=>Ap 33 #[Y7 (Sb k 0),Y7 c] F λf F=>Ap 33 #[Y7 f,Y7 (Sb j 1)] F λg F=>sto F (Am h 5) (Y7 g) λF=>ra h o R F)))
def rb (c:Bool) (e f g:Nat) (d:Θ) (a:Int) (b:Bool) (R:VR) (F:PH):Prop:=Bc (a=0) (Bb (c) (gL e f g d Y8 R F) (gL e f g d (!b) R F)) (gL e f g d Y6 R F)
def rc (f:Int->Bool->Ω) (_:Bool) (_ _ _:Nat) (_:Sl) (_:Θ) (d a:Int) (b:Bool) (_:VR) (F:PH):Prop:=f a b (i64.wrap (d+1)) F
def FH (w:Int->Bool->Ω) (d:Bool) (o n p:Nat) (f:Sl) (i:Θ) (R:VR) (a:Int) (b:Bool) (g:Int) (F:PH):Prop:=Ls F (Am n 1) λq=>Bc (g<(q.len:Int)) (Bc (g<4) (Ls F (Am n 1) λr=>Ix r g λs=>Lk F .u8 (Zb s (Zd g*1)) λh=>Bc ((Zk (i64.wrap h) 14)<9) (∃e,i=Y3 e/\Ls F (Zb e 2) λj=>Ca 48 #[(vi (Zk (i64.wrap h) 14))] F λk F=>F.cell (Zb e 2)=Y3 (Y7 j)/\k.size=2/\Nb F (Y4 k 63) λx F=>Ap 50 #[Y7 j,Y7 (Sb x 1)] F λt F=>sto F (Zb e 2) (Y7 t) λF=>rc w d o n p f (Y3 e) g (i64.wrap (a+1)) b R F) (∃c,i=Y3 c/\Ls F (Zb c 2) λl=>(f.len:Int)≠0/\Ca 49 #[(vi (Zk (i64.wrap ((Zk (i64.wrap h) 14) - 9)) (f.len:Int)))] F λm F=>F.cell (Zb c 2)=Y3 (Y7 l)/\m.size=2/\Nb F (Y4 m 63) λy F=>Ap 50 #[Y7 l,Y7 (Sb y 1)] F λu F=>sto F (Zb c 2) (Y7 u) λF=>Bb (b) ((f.len:Int)≠0/\Li F (Zb c 1) λv=>rc w d o n p f (Y3 c) g a (decide (v<(Zk (i64.wrap ((Zk (i64.wrap h) 14) - 9)) (f.len:Int)))) R F) (rc w d o n p f (Y3 c) g a Y6 R F))) (rb d o n p i a b R F)) (rb d o n p i a b R F)
def ny (c:Bool) (i j k:Nat) (e:Sl) (g:Θ) (R:VR) (F:PH):Prop:=(∃(h:Nat->Int->Bool->Ω) (f:Nat),h f 0 Y8 0 F/\∀f a b d F,h f a b d F-> FH (nx3 h f) c i j k e g R a b d F)
def QV (p q:Γ) (b:Bool) (R:VR) (F:PH):Prop:=Nb F (Y4 p 37) λj F=>Nb F (Y4 q 91) λm F=>Nb F (Y4 zG 37) λr F=>Ls F (Am j 4) λc=>Ls F (Am j 5) λf=>Lk F .u8 (Am m 0) λd=>(c.len:Int)≠0/\((Nb F (Y4 #[Zf .u8 (u8.wrap (i64.wrap (97+(f.len:Int))))] 5) λn F=>∃e,rdo prog (Conv.bytesToString (Y7 (Sb n 1))) F (Zg e)/\(ByteArray.mk #[112]).size+e.size<=9223372036854775807/\((Ca 81 #[Zg ((ByteArray.mk #[112])++e),(vi (Zk (i64.wrap d) (c.len:Int))),Y7 Zi] F λo F=>rdo prog (Conv.bytesToString (Y7 (Sb n 1))) F (Zg e)/\F.cell (Am m 0)=Y3 (Zf .u8 d)/\F.cell (Am j 5)=Y3 (Y7 f)/\Nb F (Y4 zP 55) λs F=>au F (Am s 0) 13 o λF=>ny b j m r c (Y3 (Am s 0)) R F)/\(Nb F (Y4 zP 55) λk F=>Ca 81 #[Zg ((ByteArray.mk #[112])++e),(vi (Zk (i64.wrap d) (c.len:Int))),Y7 Zi] F λh F=>rdo prog (Conv.bytesToString (Y7 (Sb n 1))) F (Zg e)/\F.cell (Am m 0)=Y3 (Zf .u8 d)/\F.cell (Am j 5)=Y3 (Y7 f)/\au F (Am k 0) 13 h λF=>ny b j m r c (Y3 (Am k 0)) R F)))/\(Nb F (Y4 zP 55) λl F=>Nb F (Y4 #[Zf .u8 (u8.wrap (i64.wrap (97+(f.len:Int))))] 5) λg F=>∃a,rdo prog (Conv.bytesToString (Y7 (Sb g 1))) F (Zg a)/\(ByteArray.mk #[112]).size+a.size<=9223372036854775807/\Ca 81 #[Zg ((ByteArray.mk #[112])++a),(vi (Zk (i64.wrap d) (c.len:Int))),Y7 Zi] F λi F=>rdo prog (Conv.bytesToString (Y7 (Sb g 1))) F (Zg a)/\F.cell (Am m 0)=Y3 (Zf .u8 d)/\F.cell (Am j 5)=Y3 (Y7 f)/\au F (Am l 0) 13 i λF=>ny b j m r c (Y3 (Am l 0)) R F))
theorem VQ {b:Γ} {c:Γ} {a:Bool} (h:QV b c a R F):ν 83 #[Y9 b,Y9 c,Za a] F R:=Rx.Λ (.Y2 (.Y2 (.J Y6 [(8,.ptr)] .N (.Y2 (.Y2 (.J Y6 [(9,.int .i64),(10,.bool)] (.Y2 (.L [(9,.int .i64),(10,.bool),(11,.int .i64)] (.Y2 (.J Y6 [(8,.ptr),(9,.int .i64),(10,.bool)] .N .N)))) (.T (.J Y6 [(87,.bool)] .N .N) (.Y2 (.Y2 (.J Y6 [] .N .N)))))))))) h
def nz (c b:Nat) (R:VR) (F:PH):Prop:=Lr F 9 (Am c 0) λa=>au F (Am b 0) 9 a λF=>Rr 9 (Am b 0) R F
def rg (g r s:Nat) (R:VR) (F:PH):Prop:=Lr F 9 (Am g 0) λl=>Lr F 9 (Am s 0) λm=>Cbo 138 #[Y9 l,Y9 m] F λn F=>Bb (n) (Ls F (Am g 8) λb=>Lr F 9 (Am s 0) λa=>((Nb F (Y4 #[] 156) λk F=>((Ap 35 #[Y7 (Sb k 0),Y7 b] F λo F=>F.row (Am s 0) a/\a.size=9/\Nb F (Y4 a 156) λq F=>Ap 35 #[Y7 o,Y7 (Sb q 1)] F λp F=>sto F (Am g 8) (Y7 p) λF=>nz g r R F)/\(a.size=9/\Nb F (Y4 a 156) λh F=>Ap 35 #[Y7 (Sb k 0),Y7 b] F λc F=>Ap 35 #[Y7 c,Y7 (Sb h 1)] F λd F=>sto F (Am g 8) (Y7 d) λF=>nz g r R F)))/\(a.size=9/\Nb F (Y4 a 156) λi F=>Nb F (Y4 #[] 156) λj F=>Ap 35 #[Y7 (Sb j 0),Y7 b] F λe F=>Ap 35 #[Y7 e,Y7 (Sb i 1)] F λf F=>sto F (Am g 8) (Y7 f) λF=>nz g r R F))) (nz g r R F)
def nA (c b:Nat) (R:VR) (F:PH):Prop:=Lr F 9 (Am c 0) λa=>au F (Am b 0) 9 a λF=>Rr 9 (Am b 0) R F
def vH (g n p:Nat) (R:VR) (F:PH):Prop:=Ls F (Am g 7) λb=>Lr F 4 (Am p 0) λa=>((Nb F (Y4 #[] 69) λk F=>((Ap 34 #[Y7 (Sb k 0),Y7 b] F λl F=>F.row (Am p 0) a/\a.size=4/\Nb F (Y4 a 69) λo F=>Ap 34 #[Y7 l,Y7 (Sb o 1)] F λm F=>sto F (Am g 7) (Y7 m) λF=>nA g n R F)/\(a.size=4/\Nb F (Y4 a 69) λh F=>Ap 34 #[Y7 (Sb k 0),Y7 b] F λc F=>Ap 34 #[Y7 c,Y7 (Sb h 1)] F λd F=>sto F (Am g 7) (Y7 d) λF=>nA g n R F)))/\(a.size=4/\Nb F (Y4 a 69) λi F=>Nb F (Y4 #[] 69) λj F=>Ap 34 #[Y7 (Sb j 0),Y7 b] F λe F=>Ap 34 #[Y7 e,Y7 (Sb i 1)] F λf F=>sto F (Am g 7) (Y7 f) λF=>nA g n R F))
def vI (h i f:Nat) (a:Int) (b:Sl) (c:Bool) (R:VR) (F:PH):Prop:=Bb (c) (Ls F (Am f 0) λd=>Nb F (Y4 #[(vi (Zk (i64.wrap a) (b.len:Int)))] 3) λg F=>Ap 67 #[Y7 d,Y7 (Sb g 1)] F λe F=>sto F (Am f 0) (Y7 e) λF=>vH h i f R F) (vH h i f R F)
def vJ (i q r t d:Nat) (j:Int) (e:Bool) (R:VR) (F:PH):Prop:=Bb (e) (Lk F .u8 (Am q 0) λf=>sto F (Am d 0) (vi (i64.wrap ((i64.wrap (3+(i64.wrap (Zk f 8)))) - 4))) λF=>Lk F .u8 (Am q 1) λg=>Ls F (Am i 4) λa=>(a.len:Int)≠0/\sto F (Am d 4) (vi (Zk (i64.wrap g) (a.len:Int))) λF=>Lk F .u8 (Am q 2) λh=>Nb F (Y4 #[(vi (Zk (i64.wrap h) 9))] 3) λk F=>sto F (Am d 6) (Y7 (Sb k 1)) λF=>rg i r d R F) (Bc ((Zk j 8)=6) (sto F (Am d 0) (vi 5) λF=>Nb F (Y4 #[(vi 5)] 3) λl F=>sto F (Am d 6) (Y7 (Sb l 1)) λF=>rg i r d R F) (Nb F (Y4 #[] 146) λs F=>Ls F (Am i 3) λm=>Ap 32 #[Y7 (Sb s 0),Y7 m] F λb F=>Lk F .u8 (Am q 1) λc=>Lr F 2 (Am t 0) λn=>Ix b (Zk (i64.wrap c) 9) λo=>au F (Zb (Zb o (Zd (Zk (i64.wrap c) 9)*7)) 5) 2 n λF=>sto F (Am i 3) (Y7 b) λF=>Lr F 9 (Am i 0) λp=>au F (Am r 0) 9 p λF=>Rr 9 (Am r 0) R F))
def vK (k f l m:Nat) (g:Int) (h:Sl) (c:Nat) (a:Int) (i:Bool) (R:VR) (F:PH):Prop:=Bb (i) (Lk F .u8 (Am f 0) λj=>sto F (Am c 0) (vi (i64.wrap ((i64.wrap (1+(i64.wrap (Zk j 8)))) - 2))) λF=>sto F (Am c 1) (vi (Zk (i64.wrap g) (h.len:Int))) λF=>Lk F .u8 (Am f 3) λd=>sto F (Am c 2) (vi (Zk (i64.wrap d) 16)) λF=>Lk F .u8 (Am f 2) λe=>Ls F (Am k 5) λb=>(b.len:Int)≠0/\sto F (Am c 3) (vi (Zk (i64.wrap e) (b.len:Int))) λF=>rg k l c R F) (Bc ((Zk a 8)=4) (vJ k f l m c a (decide ((Zk a 8)=4)) R F) (vJ k f l m c a (decide ((Zk a 8)=5)) R F))
def vL (f o h p:Nat) (a:Int) (b:Sl) (s:Nat) (c:Int) (i:Bool) (R:VR) (F:PH):Prop:=Bb (i) (Lr F 9 (Am f 0) λj=>Cbo 137 #[Y9 j,(vi (Zk (i64.wrap a) (b.len:Int)))] F λk F=>Bb ((!k)) (Nb F (Y4 #[(vi (Zk (i64.wrap a) (b.len:Int)))] 3) λq F=>Lk F .u8 (Am o 3) λl=>Lr F 2 (Am p 0) λg=>g.size=2/\Nb F (Y4 zL 69) λr F=>au F (Am r 0) 4 (wr (Zl (Zl zL 0 (Y7 (Sb q 1))) 1 (vi (i64.wrap (Zk l 4)))) 2 g.toList) λF=>Lk F .u8 (Am o 2) λe=>Ls F (Am f 5) λd=>(d.len:Int)≠0/\Bc ((Zk (i64.wrap e) (d.len:Int))≠(Zk (i64.wrap a) (b.len:Int))) (Lr F 9 (Am f 0) λm=>Cbo 137 #[Y9 m,(vi (Zk (i64.wrap e) (d.len:Int)))] F λn F=>vI f h r e d (!n) R F) (vI f h r e d Y6 R F)) (nA f h R F)) (Bc ((Zk c 8)=2) (vK f o h p a b s c (decide ((Zk c 8)=2)) R F) (vK f o h p a b s c (decide ((Zk c 8)=3)) R F))
def QW (k l:Γ) (R:VR) (F:PH):Prop:=Nb F (Y4 k 37) λi F=>Nb F (Y4 l 131) λe F=>Nb F (Y4 zG 37) λn F=>Lk F .u8 (Am e 4) λf=>Ls F (Am i 0) λg=>Ca 33 #[Zf .u8 f,(vi (g.len:Int))] F λh F=>Nb F (Y4 zD 31) λj F=>au F (Am j 0) 2 h λF=>Lk F .u8 (Am e 1) λc=>Ls F (Am i 5) λb=>(b.len:Int)≠0/\Lr F 2 (Am j 0) λd=>d.size=2/\Nb F (Y4 zF 156) λm F=>au F (Am m 0) 9 (wr zF 7 d.toList) λF=>Lk F .u8 (Am e 0) λa=>Bc ((Zk a 8)=0) (vL i e n j c b m a (decide ((Zk a 8)=0)) R F) (vL i e n j c b m a (decide ((Zk a 8)=1)) R F)
theorem VT {a:Γ} {b:Γ} (h:QW a b R F):ν 84 #[Y9 a,Y9 b] F R:=Rx.Λ (.Y2 (.Y2 (.Y2 (.Y2 (.J Y6 [] (.Y2 (.J Y6 [(44,.bool)] .N (.T (.J Y6 [] (.Y2 (.T (.Y2 (.Y2 (.J Y6 [] (.J Y6 [(74,.bool)] .N .N) .N))) .N)) .N) (.J Y6 [(90,.bool)] .N (.Y2 (.J Y6 [(115,.bool)] .N .N)))))) (.J Y6 [] .N .N)))))) h
def QX (d:Int) (R:VR) (F:PH):Prop:=Nb F (Y4 zD 31) λe F=>ν 109 #[(vi d)] F λv F=>∃b,∃a,v=(.tuple #[Y9 b,(vi a)])/\Nb F (Y4 zD 31) λf F=>au F (Am f 0) 2 b λF=>Lr F 2 (Am f 0) λc=>au F (Am e 0) 2 c λF=>Rr 2 (Am e 0) R F
theorem VU {a:Int} (h:QX a R F):ν 85 #[(vi a)] F R:=Rx.Λ .N h
def BI (x:Nat) (q:Sl) (R:VR) (F:PH):Prop:=Ca 162 #[(vi 9),(vi 10)] F λc F=>Ca 162 #[(vi 32),(vi 32)] F λd F=>Ca 163 #[(vi 3),(vi 0),(vi 1)] F λe F=>Ca 162 #[(vi 9),(vi 10)] F λf F=>Ca 162 #[(vi 32),(vi 32)] F λg F=>Ca 163 #[(vi 3),(vi 3),(vi 4)] F λh F=>Ca 163 #[(vi 4),(vi 5),(vi 0)] F λi F=>Ca 163 #[(vi 2),(vi 2),(vi 6)] F λj F=>c.size=5/\d.size=5/\e.size=5/\f.size=5/\g.size=5/\h.size=5/\i.size=5/\j.size=5/\Nb F (Y4 (wr (wr (wr (wr (wr (wr (wr (wr (#[vi 0,vi 0,vi 0,vi 0,vi 0,vi 0,vi 0,vi 0,vi 0,vi 0,vi 0,vi 0,vi 0,vi 0,vi 0,vi 0,vi 0,vi 0,vi 0,vi 0,vi 0,vi 0,vi 0,vi 0,vi 0,vi 0,vi 0,vi 0,vi 0,vi 0,vi 0,vi 0,vi 0,vi 0,vi 0,vi 0,vi 0,vi 0,vi 0,vi 0]:Γ) 0 c.toList) 5 d.toList) 10 e.toList) 15 f.toList) 20 g.toList) 25 h.toList) 30 i.toList) 35 j.toList) 149) λr F=>Ca 162 #[(vi 37),(vi 37)] F λk F=>Ca 162 #[(vi 97),(vi 122)] F λl F=>Ca 162 #[(vi 32),(vi 32)] F λm F=>Ca 163 #[(vi 3),(vi 1),(vi 2)] F λn F=>Ca 163 #[(vi 4),(vi 3),(vi 0)] F λo F=>Ca 163 #[(vi 2),(vi 0),(vi 4)] F λp F=>k.size=5/\l.size=5/\m.size=5/\n.size=5/\o.size=5/\p.size=5/\Nb F (Y4 (wr (wr (wr (wr (wr (wr (#[vi 0,vi 0,vi 0,vi 0,vi 0,vi 0,vi 0,vi 0,vi 0,vi 0,vi 0,vi 0,vi 0,vi 0,vi 0,vi 0,vi 0,vi 0,vi 0,vi 0,vi 0,vi 0,vi 0,vi 0,vi 0,vi 0,vi 0,vi 0,vi 0,vi 0]:Γ) 0 k.toList) 5 l.toList) 10 m.toList) 15 n.toList) 20 o.toList) 25 p.toList) 149) λs F=>Lr F 2 (Am x 0) λa=>a.size=2/\(wr (Zl (Zl (Zl zT 0 (Zg ⟨#[115,112,97,99,101]⟩)) 1 (vi 1)) 3 (Y7 (Sb r 8))) 5 a.toList).size=7/\Nb F (Y4 (wr (Zl (Zl (Zl zT 0 (Zg ⟨#[115,112,97,99,101]⟩)) 1 (vi 1)) 3 (Y7 (Sb r 8))) 5 a.toList) 146) λv F=>Ap 32 #[Y7 q,Y7 (Sb v 1)] F λt F=>Lr F 2 (Am x 0) λb=>b.size=2/\(wr (Zl (Zl (Zl zT 0 (Zg ⟨#[114,101,109,97,114,107]⟩)) 1 (vi 2)) 3 (Y7 (Sb s 6))) 5 b.toList).size=7/\Nb F (Y4 (wr (Zl (Zl (Zl zT 0 (Zg ⟨#[114,101,109,97,114,107]⟩)) 1 (vi 2)) 3 (Y7 (Sb s 6))) 5 b.toList) 146) λw F=>Ap 32 #[Y7 t,Y7 (Sb w 1)] F λu F=>R (Y7 u) F
def BJ (l:Sl->Ω) (j h:Nat) (R:VR) (a:Sl) (b:Int) (F:PH):Prop:=Bc (b<((Sb h 8).len:Int)) (Ix (Sb h 8) b λf=>Lx F (Zb f (Zd b*1)) λd=>Ix (Sb h 8) b λg=>Lx F (Zb g (Zd b*1)) λe=>Lr F 2 (Am j 0) λc=>c.size=2/\(wr (Zl (Zl zT 0 (Zg d)) 2 (Zg e)) 5 c.toList).size=7/\Nb F (Y4 (wr (Zl (Zl zT 0 (Zg d)) 2 (Zg e)) 5 c.toList) 146) λk F=>Ap 32 #[Y7 a,Y7 (Sb k 1)] F λi F=>F.row (Am j 0) c/\F.cell (Zb g (Zd b*1))=Y3 (Zg e)/\F.cell (Zb f (Zd b*1))=Y3 (Zg d)/\l i (i64.wrap (b+1)) F) (BI j a R F)
def LH (R:VR) (F:PH):Prop:=Ca 34 #[Za Y8] F λk F=>Nb F (Y4 zD 31) λl F=>au F (Am l 0) 2 k λF=>Lr F 2 (Am l 0) λf=>f.size=2/\(wr (Zl (Zl zT 0 (Zg ⟨#[105,100]⟩)) 4 (Zg ⟨#[120]⟩)) 5 f.toList).size=7/\Nb F (Y4 (wr (Zl (Zl zT 0 (Zg ⟨#[105,100]⟩)) 4 (Zg ⟨#[120]⟩)) 5 f.toList) 146) λg F=>Ca 162 #[(vi 97),(vi 122)] F λb F=>Ca 162 #[(vi 97),(vi 122)] F λc F=>Ca 163 #[(vi 4),(vi 1),(vi 0)] F λd F=>Ca 163 #[(vi 2),(vi 0),(vi 2)] F λe F=>b.size=5/\c.size=5/\d.size=5/\e.size=5/\Nb F (Y4 (wr (wr (wr (wr (#[vi 0,vi 0,vi 0,vi 0,vi 0,vi 0,vi 0,vi 0,vi 0,vi 0,vi 0,vi 0,vi 0,vi 0,vi 0,vi 0,vi 0,vi 0,vi 0,vi 0]:Γ) 0 b.toList) 5 c.toList) 10 d.toList) 15 e.toList) 149) λm F=>Ix (Sb g 1) 0 λh=>sto F (Zb (Zb h (Zd 0*7)) 3) (Y7 (Sb m 4)) λF=>Nb F (Y4 #[Zg ⟨#[43]⟩,Zg ⟨#[42]⟩,Zg ⟨#[40]⟩,Zg ⟨#[41]⟩,Zg ⟨#[105,102]⟩,Zg ⟨#[101,108,115,101]⟩,Zg ⟨#[59]⟩,Zg ⟨#[94]⟩] 9) λn F=>(∃(o:Nat->Sl->Ω) (j:Nat),o j (Sb g 1) 0 F/\∀j a i F,o j a i F-> BJ (nx2 o j) l n R a i F)
theorem QY (h:LH R F):ν 111 #[] F R:=Rx.Λ (.Y2 (.Y2 (.Y2 (.Y2 (.Y2 (.J Y6 [(2,.sl)] (.Y2 (.L [(2,.sl),(4,.int .i64)] .N)) .N)))))) h
def BK (R:VR) (F:PH):Prop:=R (Za Y6) F
def vM (j:Ω) (i:Nat) (R:VR) (a:Int) (F:PH):Prop:=Ls F (Am i 5) λb=>Bc (a<(b.len:Int)) (Ls F (Am i 5) λc=>Ix c a λd=>Ls F (Zb (Zb d (Zd a*13)) 2) λe=>Bc ((16:Int)<(e.len:Int)) (R (Za Y8) F) (Ls F (Am i 5) λf=>Ix f a λg=>Ls F (Zb (Zb g (Zd a*13)) 7) λh=>Bc ((16:Int)<(h.len:Int)) (R (Za Y8) F) (j (i64.wrap (a+1)) F))) (BK R F)
def LI (g:Γ) (R:VR) (F:PH):Prop:=Nb F (Y4 g 37) λa F=>Ls F (Am a 0) λh=>Bc ((64:Int)<(h.len:Int)) (R (Za Y8) F) (Ls F (Am a 3) λb=>Bc ((256:Int)<(b.len:Int)) (R (Za Y8) F) (Ls F (Am a 4) λc=>Bc ((2000:Int)<(c.len:Int)) (R (Za Y8) F) (Ls F (Am a 5) λd=>Bc ((2000:Int)<(d.len:Int)) (R (Za Y8) F) (Ls F (Am a 7) λe=>Bc ((2000:Int)<(e.len:Int)) (R (Za Y8) F) (Ls F (Am a 8) λf=>Bc ((4096:Int)<(f.len:Int)) (R (Za Y8) F) (Lp 0 F λN i F=>vM N a R i F))))))
theorem QZ {a:Γ} (h:LI a R F):ν 114 #[Y9 a] F R:=Rx.Λ (.Y2 (.Y2 (.Y2 (.J Y6 [] (.Y2 (.L [(3,.int .i64)] .N)) .N)))) h
def BL (e:Nat) (R:VR) (F:PH):Prop:=Lr F 2 (Am e 1) λa=>Ls F (Am e 0) λb=>Cbo 166 #[Y9 a,(vi (b.len:Int))] F λc F=>Bb (c) (Li F (Am e 2) λd=>R (Za (decide (d≠0))) F) (R (Za Y6) F)
def vN (j:Ω) (h:Nat) (R:VR) (a:Int) (F:PH):Prop:=Ls F (Am h 0) λi=>Bc (a<(i.len:Int)) (Ls F (Am h 0) λc=>Ix c a λd=>Lx F (Zb d (Zd a*1)) λb=>Cbo 164 #[Zg b] F λe F=>Bb ((!e)) (R (Za Y6) F) (Ls F (Am h 0) λf=>Cbo 165 #[Y7 f,(vi a)] F λg F=>Bb ((!g)) (R (Za Y6) F) (Bb ((b.toList==(ByteArray.mk #[116,114,117,101]).toList)) (R (Za Y6) F) (Bb ((b.toList==(ByteArray.mk #[102,97,108,115,101]).toList)) (R (Za Y6) F) (j (i64.wrap (a+1)) F))))) (BL h R F)
def LJ (a:Γ) (R:VR) (F:PH):Prop:=Nb F (Y4 a 37) λc F=>Lp 0 F λN b F=>vN N c R b F
theorem Q0 {a:Γ} (h:LJ a R F):ν 115 #[Y9 a] F R:=Rx.Λ (.Y2 (.J Y6 [] (.Y2 (.L [(3,.int .i64)] .N)) .N)) h
def BM (R:VR) (F:PH):Prop:=R (Za Y8) F
def BN (p:Sl->Ω) (f:Nat) (R:VR) (b:Sl) (a:Int) (F:PH):Prop:=Ls F (Am f 3) λn=>Bc (a<(n.len:Int)) (Ls F (Am f 3) λg=>Ix g a λh=>Lx F (Zb h (Zd a*7)) λi=>Nb F (Y4 #[Zg i] 9) λo F=>Ap 28 #[Y7 b,Y7 (Sb o 1)] F λc F=>Cbo 165 #[Y7 c,(vi a)] F λj F=>Bb ((!j)) (R (Za Y6) F) (Ls F (Am f 3) λd=>Ix d a λk=>Lr F 7 (Zb k (Zd a*7)) λl=>Ls F (Am f 0) λe=>Cbo 167 #[Y9 l,(vi (e.len:Int))] F λm F=>F.cell (Am f 0)=Y3 (Y7 e)/\F.cell (Am f 3)=Y3 (Y7 d)/\Bb ((!m)) (R (Za Y6) F) (p c (i64.wrap (a+1)) F))) (BM R F)
def LL (d:Γ) (R:VR) (F:PH):Prop:=Nb F (Y4 d 37) λf F=>Nb F (Y4 #[] 9) λg F=>(∃(e:Nat->Sl->Ω) (c:Nat),e c (Sb g 0) 0 F/\∀c a b F,e c a b F-> BN (nx2 e c) f R a b F)
theorem Q1 {a:Γ} (h:LL a R F):ν 116 #[Y9 a] F R:=Rx.Λ (.Y2 (.Y2 (.J Y6 [] (.Y2 (.L [(3,.sl),(4,.int .i64)] .N)) .N))) h
def BO (d:Nat) (R:VR) (F:PH):Prop:=Li F (Am d 6) λa=>Bc (0<=a) (Li F (Am d 6) λb=>Ls F (Am d 4) λc=>R (Za (decide (b<(c.len:Int)))) F) (R (Za Y6) F)
def vO (f:Ω) (d:Nat) (R:VR) (a:Int) (F:PH):Prop:=Ls F (Am d 4) λe=>Bc (a<(e.len:Int)) (Ls F (Am d 4) λb=>Cbo 165 #[Y7 b,(vi a)] F λc F=>Bb ((!c)) (R (Za Y6) F) (f (i64.wrap (a+1)) F)) (BO d R F)
def LM (a:Γ) (R:VR) (F:PH):Prop:=Nb F (Y4 a 37) λc F=>Lp 0 F λN b F=>vO N c R b F
theorem Q2 {a:Γ} (h:LM a R F):ν 117 #[Y9 a] F R:=Rx.Λ (.Y2 (.J Y6 [] (.Y2 (.L [(3,.int .i64)] .N)) .N)) h
def BP (R:VR) (F:PH):Prop:=R (vi 0) F
def ph (c:Sl->Ω) (_:Nat) (b:Int) (a:Sl) (_:VR) (F:PH):Prop:=c a (i64.wrap (b+1)) F
def BQ (B:Sl->Ω) (e:Nat) (R:VR) (b:Sl) (a:Int) (F:PH):Prop:=Ls F (Am e 5) λz=>Bc (a<(z.len:Int)) (Ls F (Am e 5) λf=>Ix f a λg=>Lr F 13 (Zb g (Zd a*13)) λh=>Nb F (Y4 zP 55) λd F=>au F (Am d 0) 13 h λF=>Lr F 9 (Am e 0) λi=>Lr F 13 (Am d 0) λj=>Cbo 168 #[Y9 i,Y9 j] F λk F=>Bb ((!k)) (R (vi 50) F) (Lx F (Am d 0) λl=>Nb F (Y4 #[Zg l] 9) λA F=>Ap 28 #[Y7 b,Y7 (Sb A 1)] F λc F=>Cbo 165 #[Y7 c,(vi a)] F λm F=>Bb ((!m)) (R (vi 52) F) (Lr F 2 (Am d 3) λn=>Ls F (Am e 0) λo=>Cbo 166 #[Y9 n,(vi (o.len:Int))] F λp F=>Bb ((!p)) (R (vi 52) F) (Li F (Am d 6) λq=>Bc (q<(-1:Int)) (R (vi 52) F) (Li F (Am d 6) λr=>Bc (1<r) (R (vi 52) F) (Lr F 13 (Am d 0) λs=>Cbo 169 #[Y9 s] F λt F=>Bb ((!t)) (R (vi 52) F) (Lr F 13 (Am d 0) λu=>Cbo 170 #[Y9 u] F λv F=>Bb ((!v)) (R (vi 52) F) (Lb F (Am d 5) λw=>Bb (w) (Lr F 13 (Am d 0) λx=>Cbo 171 #[Y9 x] F λy F=>Bb ((!y)) (R (vi 52) F) (ph B e a c R F)) (ph B e a c R F))))))))) (BP R F)
def LN (d:Γ) (R:VR) (F:PH):Prop:=Nb F (Y4 d 37) λf F=>Nb F (Y4 #[] 9) λg F=>(∃(e:Nat->Sl->Ω) (c:Nat),e c (Sb g 0) 0 F/\∀c a b F,e c a b F-> BQ (nx2 e c) f R a b F)
theorem Q3 {a:Γ} (h:LN a R F):ν 118 #[Y9 a] F R:=Rx.Λ (.Y2 (.Y2 (.J Y6 [] (.Y2 (.L [(3,.sl),(4,.int .i64)] (.Y2 (.J Y6 [(3,.sl)] .N .N)))) .N))) h
def BR (R:VR) (F:PH):Prop:=R (Za Y8) F
def BS (c:Ω) (_:Nat) (_:Sl) (a:Int) (_:VR) (F:PH):Prop:=c (i64.wrap (a+1)) F
def vP (l m:Ω) (n:Nat) (b:Sl) (j:Int) (k:Nat) (R:VR) (c:Int) (F:PH):Prop:=Ls F (Am k 0) λd=>Bc (c<(d.len:Int)) (Ls F (Am k 0) λe=>Ix e c λf=>Li F (Zb f (Zd c*1)) λa=>Bc (a<0) (R (Za Y6) F) (Bc ((b.len:Int)<=a) (R (Za Y6) F) (Ix b a λg=>Lb F (Zb g (Zd a*1)) λh=>Bb (h) (R (Za Y6) F) (Ix b a λi=>sto F (Zb i (Zd a*1)) (Za Y8) λF=>m (i64.wrap (c+1)) F)))) (BS l n b j R F)
def vQ (q:Ω) (n:Nat) (b:Sl) (R:VR) (a:Int) (F:PH):Prop:=Ls F (Am n 7) λc=>Bc (a<(c.len:Int)) (Ls F (Am n 7) λd=>Ix d a λe=>Lr F 4 (Zb e (Zd a*4)) λf=>Nb F (Y4 zL 69) λg F=>au F (Am g 0) 4 f λF=>Li F (Am g 1) λh=>Bc (h<0) (R (Za Y6) F) (Li F (Am g 1) λi=>Bc (3<i) (R (Za Y6) F) (Lr F 2 (Am g 2) λj=>Ls F (Am n 0) λk=>Cbo 166 #[Y9 j,(vi (k.len:Int))] F λl F=>Bb ((!l)) (R (Za Y6) F) ((∃(p:Nat->Ω) (o:Nat),p o 0 F/\∀o m F,p o m F-> vP q (nx1 p o) n b a g R m F))))) (BR R F)
def LO (c:Γ) (R:VR) (F:PH):Prop:=Nb F (Y4 c 37) λe F=>Ls F (Am e 5) λb=>aF prog (Instr.makeSlice 211 (vi (b.len:Int)) (vi (b.len:Int))) F λv F=>∃a,v=(Y7 a)/\Lp 0 F λN d F=>vQ N e a R d F
theorem Q4 {a:Γ} (h:LO a R F):ν 119 #[Y9 a] F R:=Rx.Λ (.Y2 (.Y2 (.J Y6 [] (.Y2 (.L [(4,.int .i64)] (.Y2 (.J Y6 [] (.Y2 (.Y2 (.Y2 (.L [(6,.int .i64)] .N)))) .N)))) .N))) h
def BT (R:VR) (F:PH):Prop:=R (Za Y8) F
def vR (i:Ω) (g:Nat) (R:VR) (a:Int) (F:PH):Prop:=Ls F (Am g 8) λh=>Bc (a<(h.len:Int)) (Lr F 9 (Am g 0) λc=>Ls F (Am g 8) λb=>Ix b a λd=>Lr F 9 (Zb d (Zd a*9)) λe=>Cbo 138 #[Y9 c,Y9 e] F λf F=>F.cell (Am g 8)=Y3 (Y7 b)/\Bb ((!f)) (R (Za Y6) F) (i (i64.wrap (a+1)) F)) (BT R F)
def LP (a:Γ) (R:VR) (F:PH):Prop:=Nb F (Y4 a 37) λc F=>Lp 0 F λN b F=>vR N c R b F
theorem Q5 {a:Γ} (h:LP a R F):ν 120 #[Y9 a] F R:=Rx.Λ (.Y2 (.J Y6 [] (.Y2 (.L [(3,.int .i64)] .N)) .N)) h
def BU (c b:Nat) (R:VR) (F:PH):Prop:=Lr F 9 (Am c 0) λa=>au F (Am b 0) 9 a λF=>Rr 9 (Am b 0) R F
def lC (b a c:Nat) (R:VR) (F:PH):Prop:=sto F (Am b 7) (Y7 (Sb a 3)) λF=>BU b c R F
def gy (a:Γ) (d:Nat) (b:Γ) (e:Nat) (c:Γ) (f h i:Nat) (R:VR) (F:PH):Prop:=a.size=2/\(wr (Zl (Zl zL 0 (Y7 (Sb d 1))) 1 (vi 2)) 2 b.toList).size=4/\(wr (Zl (Zl zL 0 (Y7 (Sb e 1))) 1 (vi 1)) 2 c.toList).size=4/\(wr (Zl (Zl zL 0 (Y7 (Sb f 1))) 1 (vi 1)) 2 a.toList).size=4/\Nb F (Y4 (wr (wr (wr (#[Zm Y5 0 0,vi 0,.slice Y5 0 0,vi 0,.slice Y5 0 0,vi 0,.slice Y5 0 0,vi 0,.slice Y5 0 0,vi 0,.slice Y5 0 0,vi 0]:Γ) 0 (wr (Zl (Zl zL 0 (Y7 (Sb d 1))) 1 (vi 2)) 2 b.toList).toList) 4 (wr (Zl (Zl zL 0 (Y7 (Sb e 1))) 1 (vi 1)) 2 c.toList).toList) 8 (wr (Zl (Zl zL 0 (Y7 (Sb f 1))) 1 (vi 1)) 2 a.toList).toList) 69) λg F=>lC h g i R F
def gz (c:Γ) (h:Nat) (a b:Γ) (e f g i j:Nat) (R:VR) (F:PH):Prop:=Ca 86 #[Y9 c] F λd F=>F.row (Am h 0) a/\F.row (Am h 0) b/\gy d e b f a g i j R F
def pj (d:Nat) (a b:Γ) (e f g h i:Nat) (R:VR) (F:PH):Prop:=Ca 85 #[(vi 0)] F λc F=>F.row (Am d 0) a/\F.row (Am d 0) b/\gz c d a b e f g h i R F
def lH (a:Γ) (e:Nat) (c:Γ) (f:Nat) (d:Γ) (g h:Nat) (R:VR) (F:PH):Prop:=Nb F (Y4 #[(vi 0)] 3) λb F=>gy a e c f d b g h R F
def pk (a:Γ) (h:Nat) (b c:Γ) (f g i j:Nat) (R:VR) (F:PH):Prop:=((Nb F (Y4 #[(vi 0)] 3) λe F=>gz a h b c f g e i j R F)/\(Ca 86 #[Y9 a] F λd F=>F.row (Am h 0) b/\F.row (Am h 0) c/\lH d f c g b i j R F))
def vS (a:Γ) (f:Nat) (b:Γ) (d e h i:Nat) (R:VR) (F:PH):Prop:=a.size=2/\((Nb F (Y4 #[(vi 0)] 3) λg F=>pj f a b d e g h i R F)/\(Ca 85 #[(vi 0)] F λc F=>F.row (Am f 0) a/\F.row (Am f 0) b/\pk c f a b d e h i R F))
def lI (a:Γ) (f:Nat) (c:Γ) (g d e h i:Nat) (R:VR) (F:PH):Prop:=a.size=2/\Ca 85 #[(vi 0)] F λb F=>F.row (Am f 0) a/\F.row (Am f 0) c/\gz b f a c g d e h i R F
def lJ (a b:Γ) (h:Nat) (d:Γ) (g e f i j:Nat) (R:VR) (F:PH):Prop:=a.size=2/\Ca 86 #[Y9 b] F λc F=>F.row (Am h 0) a/\F.row (Am h 0) d/\gy c g d e a f i j R F
def lK (b:Γ) (g:Nat) (e:Γ) (c d:Nat) (a:Γ) (h i:Nat) (R:VR) (F:PH):Prop:=b.size=2/\(wr (Zl (Zl zL 0 (Y7 (Sb g 1))) 1 (vi 2)) 2 e.toList).size=4/\(wr (Zl (Zl zL 0 (Y7 (Sb c 1))) 1 (vi 1)) 2 b.toList).size=4/\(wr (Zl (Zl zL 0 (Y7 (Sb d 1))) 1 (vi 1)) 2 a.toList).size=4/\Nb F (Y4 (wr (wr (wr (#[Zm Y5 0 0,vi 0,.slice Y5 0 0,vi 0,.slice Y5 0 0,vi 0,.slice Y5 0 0,vi 0,.slice Y5 0 0,vi 0,.slice Y5 0 0,vi 0]:Γ) 0 (wr (Zl (Zl zL 0 (Y7 (Sb g 1))) 1 (vi 2)) 2 e.toList).toList) 4 (wr (Zl (Zl zL 0 (Y7 (Sb c 1))) 1 (vi 1)) 2 b.toList).toList) 8 (wr (Zl (Zl zL 0 (Y7 (Sb d 1))) 1 (vi 1)) 2 a.toList).toList) 69) λf F=>lC h f i R F
def hY (a d:Γ) (f:Nat) (e:Γ) (b g h:Nat) (R:VR) (F:PH):Prop:=a.size=2/\Nb F (Y4 #[(vi 1)] 3) λc F=>lK d f e c b a g h R F
def ia (b a:Γ) (h:Nat) (c:Γ) (g d i j:Nat) (R:VR) (F:PH):Prop:=((Nb F (Y4 #[(vi 1)] 3) λf F=>lJ b a h c g f d i j R F)/\(Ca 86 #[Y9 a] F λe F=>F.row (Am h 0) b/\F.row (Am h 0) c/\hY e b g c d i j R F))
def ri (a:Γ) (g:Nat) (b:Γ) (f c h i:Nat) (R:VR) (F:PH):Prop:=((Nb F (Y4 #[(vi 1)] 3) λe F=>lI a g b f e c h i R F)/\(Ca 85 #[(vi 0)] F λd F=>F.row (Am g 0) a/\F.row (Am g 0) b/\ia a d g b f c h i R F))
def lL (a b:Γ) (h:Nat) (c:Γ) (g d i j:Nat) (R:VR) (F:PH):Prop:=a.size=2/\((Nb F (Y4 #[(vi 0)] 3) λf F=>gz b h a c g d f i j R F)/\(Ca 86 #[Y9 b] F λe F=>F.row (Am h 0) a/\F.row (Am h 0) c/\lH e g c d a i j R F))
def lM (b a:Γ) (f:Nat) (e:Γ) (c g h:Nat) (R:VR) (F:PH):Prop:=b.size=2/\Nb F (Y4 #[(vi 0)] 3) λd F=>gy a f e c b d g h R F
def lO (b a:Γ) (f:Nat) (c:Γ) (g h:Nat) (R:VR) (F:PH):Prop:=((Nb F (Y4 #[(vi 1)] 3) λd F=>lM b a f c d g h R F)/\(Nb F (Y4 #[(vi 0)] 3) λe F=>hY a b f c e g h R F))
def rj (b a:Γ) (h:Nat) (c:Γ) (e i j:Nat) (R:VR) (F:PH):Prop:=((Nb F (Y4 #[(vi 1)] 3) λf F=>lL b a h c e f i j R F)/\(Nb F (Y4 #[(vi 0)] 3) λg F=>ia b a h c e g i j R F)/\(Ca 86 #[Y9 a] F λd F=>F.row (Am h 0) b/\F.row (Am h 0) c/\lO b d e c i j R F))
def vT (a b:Γ) (f d g h:Nat) (R:VR) (F:PH):Prop:=a.size=2/\((Nb F (Y4 #[(vi 1)] 3) λi F=>vS b f a d i g h R F)/\(Nb F (Y4 #[(vi 0)] 3) λe F=>ri b f a d e g h R F)/\(Ca 85 #[(vi 0)] F λc F=>F.row (Am f 0) b/\F.row (Am f 0) a/\rj b c f a d g h R F))
def rk (a:Γ) (g:Nat) (b:Γ) (c d h i:Nat) (R:VR) (F:PH):Prop:=a.size=2/\((Nb F (Y4 #[(vi 0)] 3) λf F=>pj g b a c d f h i R F)/\(Ca 85 #[(vi 0)] F λe F=>F.row (Am g 0) b/\F.row (Am g 0) a/\pk e g b a c d h i R F))
def lP (a:Γ) (g:Nat) (c:Γ) (d e f h i:Nat) (R:VR) (F:PH):Prop:=a.size=2/\Ca 85 #[(vi 0)] F λb F=>F.row (Am g 0) c/\F.row (Am g 0) a/\gz b g c a d e f h i R F
def lQ (a b:Γ) (h:Nat) (d:Γ) (e f g i j:Nat) (R:VR) (F:PH):Prop:=a.size=2/\Ca 86 #[Y9 b] F λc F=>F.row (Am h 0) d/\F.row (Am h 0) a/\gy c e a f d g i j R F
def lR (b:Γ) (c d:Nat) (f:Γ) (e:Nat) (a:Γ) (h i:Nat) (R:VR) (F:PH):Prop:=b.size=2/\(wr (Zl (Zl zL 0 (Y7 (Sb c 1))) 1 (vi 2)) 2 b.toList).size=4/\(wr (Zl (Zl zL 0 (Y7 (Sb d 1))) 1 (vi 1)) 2 f.toList).size=4/\(wr (Zl (Zl zL 0 (Y7 (Sb e 1))) 1 (vi 1)) 2 a.toList).size=4/\Nb F (Y4 (wr (wr (wr (#[Zm Y5 0 0,vi 0,.slice Y5 0 0,vi 0,.slice Y5 0 0,vi 0,.slice Y5 0 0,vi 0,.slice Y5 0 0,vi 0,.slice Y5 0 0,vi 0]:Γ) 0 (wr (Zl (Zl zL 0 (Y7 (Sb c 1))) 1 (vi 2)) 2 b.toList).toList) 4 (wr (Zl (Zl zL 0 (Y7 (Sb d 1))) 1 (vi 1)) 2 f.toList).toList) 8 (wr (Zl (Zl zL 0 (Y7 (Sb e 1))) 1 (vi 1)) 2 a.toList).toList) 69) λg F=>lC h g i R F
def ib (a e:Γ) (b:Nat) (f:Γ) (c g h:Nat) (R:VR) (F:PH):Prop:=a.size=2/\Nb F (Y4 #[(vi 4)] 3) λd F=>lR e d b f c a g h R F
def ic (b a:Γ) (h:Nat) (c:Γ) (d e i j:Nat) (R:VR) (F:PH):Prop:=((Nb F (Y4 #[(vi 4)] 3) λg F=>lQ b a h c g d e i j R F)/\(Ca 86 #[Y9 a] F λf F=>F.row (Am h 0) c/\F.row (Am h 0) b/\ib f b d c e i j R F))
def rm (a:Γ) (g:Nat) (b:Γ) (c d h i:Nat) (R:VR) (F:PH):Prop:=((Nb F (Y4 #[(vi 4)] 3) λf F=>lP a g b f c d h i R F)/\(Ca 85 #[(vi 0)] F λe F=>F.row (Am g 0) b/\F.row (Am g 0) a/\ic a e g b c d h i R F))
def lS (a b:Γ) (h:Nat) (c:Γ) (d e i j:Nat) (R:VR) (F:PH):Prop:=a.size=2/\((Nb F (Y4 #[(vi 0)] 3) λf F=>gz b h c a d e f i j R F)/\(Ca 86 #[Y9 b] F λg F=>F.row (Am h 0) c/\F.row (Am h 0) a/\lH g d a e c i j R F))
def lT (c a:Γ) (d e:Nat) (f:Γ) (g h:Nat) (R:VR) (F:PH):Prop:=c.size=2/\Nb F (Y4 #[(vi 0)] 3) λb F=>gy a d c e f b g h R F
def lU (d a:Γ) (b:Nat) (e:Γ) (g h:Nat) (R:VR) (F:PH):Prop:=((Nb F (Y4 #[(vi 4)] 3) λf F=>lT d a f b e g h R F)/\(Nb F (Y4 #[(vi 0)] 3) λc F=>ib a d b e c g h R F))
def rq (c a:Γ) (h:Nat) (d:Γ) (b i j:Nat) (R:VR) (F:PH):Prop:=((Nb F (Y4 #[(vi 4)] 3) λg F=>lS c a h d g b i j R F)/\(Nb F (Y4 #[(vi 0)] 3) λe F=>ic c a h d b e i j R F)/\(Ca 86 #[Y9 a] F λf F=>F.row (Am h 0) d/\F.row (Am h 0) c/\lU c f b d i j R F))
def rt (a c:Γ) (g b h i:Nat) (R:VR) (F:PH):Prop:=a.size=2/\((Nb F (Y4 #[(vi 4)] 3) λe F=>rk c g a e b h i R F)/\(Nb F (Y4 #[(vi 0)] 3) λf F=>rm c g a b f h i R F)/\(Ca 85 #[(vi 0)] F λd F=>F.row (Am g 0) a/\F.row (Am g 0) c/\rq c d g a b h i R F))
def ru (a c:Γ) (g d b h i:Nat) (R:VR) (F:PH):Prop:=a.size=2/\((Nb F (Y4 #[(vi 1)] 3) λf F=>lI c g a d f b h i R F)/\(Ca 85 #[(vi 0)] F λe F=>F.row (Am g 0) c/\F.row (Am g 0) a/\ia c e g a d b h i R F))
def rz (a c:Γ) (g d b h i:Nat) (R:VR) (F:PH):Prop:=a.size=2/\((Nb F (Y4 #[(vi 4)] 3) λf F=>lP c g a f d b h i R F)/\(Ca 85 #[(vi 0)] F λe F=>F.row (Am g 0) a/\F.row (Am g 0) c/\ic c e g a d b h i R F))
def rA (b d a:Γ) (h e c i j:Nat) (R:VR) (F:PH):Prop:=b.size=2/\((Nb F (Y4 #[(vi 1)] 3) λg F=>lJ d a h b e g c i j R F)/\(Ca 86 #[Y9 a] F λf F=>F.row (Am h 0) d/\F.row (Am h 0) b/\hY f d e b c i j R F))
def rB (b e a:Γ) (h c d i j:Nat) (R:VR) (F:PH):Prop:=b.size=2/\((Nb F (Y4 #[(vi 4)] 3) λg F=>lQ e a h b g c d i j R F)/\(Ca 86 #[Y9 a] F λf F=>F.row (Am h 0) b/\F.row (Am h 0) e/\ib f e c b d i j R F))
def rC (e f:Γ) (b c:Nat) (a:Γ) (g h:Nat) (R:VR) (F:PH):Prop:=e.size=2/\Nb F (Y4 #[(vi 1)] 3) λd F=>lK f b e d c a g h R F
def rD (e f:Γ) (b c:Nat) (a:Γ) (g h:Nat) (R:VR) (F:PH):Prop:=e.size=2/\Nb F (Y4 #[(vi 4)] 3) λd F=>lR f d b e c a g h R F
def lV (a e f:Γ) (b g h:Nat) (R:VR) (F:PH):Prop:=a.size=2/\((Nb F (Y4 #[(vi 4)] 3) λc F=>rC e f c b a g h R F)/\(Nb F (Y4 #[(vi 1)] 3) λd F=>rD f e d b a g h R F))
def lW (c d a:Γ) (h b i j:Nat) (R:VR) (F:PH):Prop:=((Nb F (Y4 #[(vi 4)] 3) λg F=>rA c d a h g b i j R F)/\(Nb F (Y4 #[(vi 1)] 3) λf F=>rB d c a h f b i j R F)/\(Ca 86 #[Y9 a] F λe F=>F.row (Am h 0) d/\F.row (Am h 0) c/\lV e c d b i j R F))
def rE (b c:Γ) (g a h i:Nat) (R:VR) (F:PH):Prop:=((Nb F (Y4 #[(vi 4)] 3) λe F=>ru b c g e a h i R F)/\(Nb F (Y4 #[(vi 1)] 3) λf F=>rz c b g f a h i R F)/\(Ca 85 #[(vi 0)] F λd F=>F.row (Am g 0) c/\F.row (Am g 0) b/\lW b c d g a h i R F))
def rF (c d a:Γ) (h b i j:Nat) (R:VR) (F:PH):Prop:=c.size=2/\((Nb F (Y4 #[(vi 1)] 3) λf F=>lL d a h c b f i j R F)/\(Nb F (Y4 #[(vi 0)] 3) λg F=>ia d a h c b g i j R F)/\(Ca 86 #[Y9 a] F λe F=>F.row (Am h 0) d/\F.row (Am h 0) c/\lO d e b c i j R F))
def rG (c d a:Γ) (h b i j:Nat) (R:VR) (F:PH):Prop:=c.size=2/\((Nb F (Y4 #[(vi 4)] 3) λf F=>lS d a h c f b i j R F)/\(Nb F (Y4 #[(vi 0)] 3) λg F=>ic d a h c b g i j R F)/\(Ca 86 #[Y9 a] F λe F=>F.row (Am h 0) c/\F.row (Am h 0) d/\lU d e b c i j R F))
def rH (c f a:Γ) (b g h:Nat) (R:VR) (F:PH):Prop:=c.size=2/\((Nb F (Y4 #[(vi 1)] 3) λd F=>lM f a b c d g h R F)/\(Nb F (Y4 #[(vi 0)] 3) λe F=>hY a f b c e g h R F))
def rI (c f a:Γ) (b g h:Nat) (R:VR) (F:PH):Prop:=c.size=2/\((Nb F (Y4 #[(vi 4)] 3) λd F=>lT f a d b c g h R F)/\(Nb F (Y4 #[(vi 0)] 3) λe F=>ib a f b c e g h R F))
def rJ (b c a:Γ) (g h:Nat) (R:VR) (F:PH):Prop:=((Nb F (Y4 #[(vi 4)] 3) λd F=>rH b c a d g h R F)/\(Nb F (Y4 #[(vi 1)] 3) λe F=>rI c b a e g h R F)/\(Nb F (Y4 #[(vi 0)] 3) λf F=>lV a b c f g h R F))
def rK (b c a:Γ) (h i j:Nat) (R:VR) (F:PH):Prop:=((Nb F (Y4 #[(vi 4)] 3) λe F=>rF b c a h e i j R F)/\(Nb F (Y4 #[(vi 1)] 3) λf F=>rG c b a h f i j R F)/\(Nb F (Y4 #[(vi 0)] 3) λg F=>lW b c a h g i j R F)/\(Ca 86 #[Y9 a] F λd F=>F.row (Am h 0) c/\F.row (Am h 0) b/\rJ b c d i j R F))
def LQ (R:VR) (F:PH):Prop:=Nb F (Y4 zG 37) λP F=>Nb F (Y4 #[Zg ⟨#[69]⟩] 9) λb3 F=>Ca 46 #[Y7 (Sb b3 1)] F λQ F=>Nb F (Y4 zG 37) λa F=>au F (Am a 0) 9 Q λF=>Ca 34 #[Za Y8] F λS F=>Nb F (Y4 zD 31) λj F=>au F (Am j 0) 2 S λF=>Ls F (Am a 5) λg=>Ca 49 #[(vi 0)] F λD F=>F.cell (Am a 5)=Y3 (Y7 g)/\Ca 48 #[(vi 1)] F λE F=>F.cell (Am a 5)=Y3 (Y7 g)/\Ca 49 #[(vi 0)] F λl F=>F.cell (Am a 5)=Y3 (Y7 g)/\D.size=2/\E.size=2/\l.size=2/\Nb F (Y4 (wr (wr (wr (#[Za Y6,vi 0,.bool Y6,vi 0,.bool Y6,vi 0]:Γ) 0 D.toList) 2 E.toList) 4 l.toList) 63) λT F=>Ca 81 #[Zg ⟨#[97,100,100]⟩,(vi 0),Y7 (Sb T 3)] F λm F=>F.cell (Am a 5)=Y3 (Y7 g)/\m.size=13/\Nb F (Y4 m 55) λU F=>Ap 33 #[Y7 g,Y7 (Sb U 1)] F λG F=>sto F (Am a 5) (Y7 G) λF=>Ls F (Am a 5) λb=>Ca 49 #[(vi 0)] F λn F=>F.cell (Am a 5)=Y3 (Y7 b)/\Ca 48 #[(vi 2)] F λo F=>F.cell (Am a 5)=Y3 (Y7 b)/\Ca 49 #[(vi 0)] F λp F=>F.cell (Am a 5)=Y3 (Y7 b)/\n.size=2/\o.size=2/\p.size=2/\Nb F (Y4 (wr (wr (wr (#[Za Y6,vi 0,.bool Y6,vi 0,.bool Y6,vi 0]:Γ) 0 n.toList) 2 o.toList) 4 p.toList) 63) λV F=>Ca 81 #[Zg ⟨#[109,117,108]⟩,(vi 0),Y7 (Sb V 3)] F λq F=>F.cell (Am a 5)=Y3 (Y7 b)/\q.size=13/\Nb F (Y4 q 55) λW F=>Ap 33 #[Y7 b,Y7 (Sb W 1)] F λH F=>sto F (Am a 5) (Y7 H) λF=>Ls F (Am a 5) λc=>Ca 48 #[(vi 3)] F λr F=>F.cell (Am a 5)=Y3 (Y7 c)/\Ca 49 #[(vi 0)] F λs F=>F.cell (Am a 5)=Y3 (Y7 c)/\Ca 48 #[(vi 4)] F λt F=>F.cell (Am a 5)=Y3 (Y7 c)/\r.size=2/\s.size=2/\t.size=2/\Nb F (Y4 (wr (wr (wr (#[Za Y6,vi 0,.bool Y6,vi 0,.bool Y6,vi 0]:Γ) 0 r.toList) 2 s.toList) 4 t.toList) 63) λX F=>Ca 81 #[Zg ⟨#[98,114,97,99,107,101,116]⟩,(vi 0),Y7 (Sb X 3)] F λu F=>F.cell (Am a 5)=Y3 (Y7 c)/\u.size=13/\Nb F (Y4 u 55) λY F=>Ap 33 #[Y7 c,Y7 (Sb Y 1)] F λI F=>sto F (Am a 5) (Y7 I) λF=>Ls F (Am a 5) λh=>Ca 48 #[(vi 0)] F λv F=>F.cell (Am a 5)=Y3 (Y7 h)/\v.size=2/\Nb F (Y4 v 63) λZ F=>Ca 81 #[Zg ⟨#[110,97,109,101]⟩,(vi 0),Y7 (Sb Z 1)] F λw F=>F.cell (Am a 5)=Y3 (Y7 h)/\w.size=13/\Nb F (Y4 w 55) λaa F=>Ap 33 #[Y7 h,Y7 (Sb aa 1)] F λJ F=>sto F (Am a 5) (Y7 J) λF=>Ls F (Am a 5) λd=>Ca 49 #[(vi 0)] F λx F=>F.cell (Am a 5)=Y3 (Y7 d)/\Ca 48 #[(vi 8)] F λy F=>F.cell (Am a 5)=Y3 (Y7 d)/\Ca 49 #[(vi 0)] F λz F=>F.cell (Am a 5)=Y3 (Y7 d)/\x.size=2/\y.size=2/\z.size=2/\Nb F (Y4 (wr (wr (wr (#[Za Y6,vi 0,.bool Y6,vi 0,.bool Y6,vi 0]:Γ) 0 x.toList) 2 y.toList) 4 z.toList) 63) λab F=>Ca 81 #[Zg ⟨#[112,111,119]⟩,(vi 0),Y7 (Sb ab 3)] F λA F=>F.cell (Am a 5)=Y3 (Y7 d)/\A.size=13/\Nb F (Y4 A 55) λac F=>Ap 33 #[Y7 d,Y7 (Sb ac 1)] F λK F=>sto F (Am a 5) (Y7 K) λF=>Ls F (Am a 5) λL=>Ix L 2 λM=>sto F (Zb (Zb M (Zd 2*13)) 5) (Za Y8) λF=>Ls F (Am a 5) λB=>Ca 85 #[(vi 1)] F λN F=>F.cell (Am a 5)=Y3 (Y7 B)/\Ix B 4 λO=>au F (Zb (Zb O (Zd 4*13)) 3) 2 N λF=>Lr F 2 (Am j 0) λe=>Lr F 2 (Am j 0) λf=>((Nb F (Y4 #[(vi 4)] 3) λad F=>vT e f j ad a P R F)/\(Nb F (Y4 #[(vi 1)] 3) λC F=>rt f e j C a P R F)/\(Nb F (Y4 #[(vi 0)] 3) λk F=>rE e f j k a P R F)/\(Ca 85 #[(vi 0)] F λi F=>F.row (Am j 0) f/\F.row (Am j 0) e/\rK e f i j a P R F))
theorem Q6 (h:LQ R F):ν 129 #[] F R:=Rx.Λ .N h
def pm (f e:Nat) (R:VR) (F:PH):Prop:=Ls F (Am e 8) λa=>Ca 85 #[(vi 1)] F λb F=>F.cell (Am e 8)=Y3 (Y7 a)/\Ix a 1 λc=>au F (Zb (Zb c (Zd 1*9)) 7) 2 b λF=>Lr F 9 (Am e 0) λd=>au F (Am f 0) 9 d λF=>Rr 9 (Am f 0) R F
def LU (R:VR) (F:PH):Prop:=Nb F (Y4 zG 37) λb0 F=>Nb F (Y4 #[Zg ⟨#[83]⟩,Zg ⟨#[67]⟩] 9) λb3 F=>Ca 46 #[Y7 (Sb b3 2)] F λO F=>Nb F (Y4 zG 37) λa F=>au F (Am a 0) 9 O λF=>Ca 34 #[Za Y8] F λP F=>Nb F (Y4 zD 31) λN F=>au F (Am N 0) 2 P λF=>Ls F (Am a 5) λf=>Ca 48 #[(vi 5)] F λC F=>F.cell (Am a 5)=Y3 (Y7 f)/\Ca 49 #[(vi 1)] F λD F=>F.cell (Am a 5)=Y3 (Y7 f)/\Ca 49 #[(vi 0)] F λk F=>F.cell (Am a 5)=Y3 (Y7 f)/\Ca 48 #[(vi 6)] F λl F=>F.cell (Am a 5)=Y3 (Y7 f)/\Ca 49 #[(vi 0)] F λm F=>F.cell (Am a 5)=Y3 (Y7 f)/\C.size=2/\D.size=2/\k.size=2/\l.size=2/\m.size=2/\Nb F (Y4 (wr (wr (wr (wr (wr (#[Za Y6,vi 0,.bool Y6,vi 0,.bool Y6,vi 0,.bool Y6,vi 0,.bool Y6,vi 0]:Γ) 0 C.toList) 2 D.toList) 4 k.toList) 6 l.toList) 8 m.toList) 63) λQ F=>Ca 81 #[Zg ⟨#[98,111,116,104]⟩,(vi 0),Y7 (Sb Q 5)] F λn F=>F.cell (Am a 5)=Y3 (Y7 f)/\n.size=13/\Nb F (Y4 n 55) λS F=>Ap 33 #[Y7 f,Y7 (Sb S 1)] F λE F=>sto F (Am a 5) (Y7 E) λF=>Ls F (Am a 5) λd=>Ca 48 #[(vi 5)] F λo F=>F.cell (Am a 5)=Y3 (Y7 d)/\Ca 49 #[(vi 1)] F λp F=>F.cell (Am a 5)=Y3 (Y7 d)/\Ca 49 #[(vi 0)] F λq F=>F.cell (Am a 5)=Y3 (Y7 d)/\o.size=2/\p.size=2/\q.size=2/\Nb F (Y4 (wr (wr (wr (#[Za Y6,vi 0,.bool Y6,vi 0,.bool Y6,vi 0]:Γ) 0 o.toList) 2 p.toList) 4 q.toList) 63) λT F=>Ca 81 #[Zg ⟨#[116,104,101,110]⟩,(vi 0),Y7 (Sb T 3)] F λr F=>F.cell (Am a 5)=Y3 (Y7 d)/\r.size=13/\Nb F (Y4 r 55) λU F=>Ap 33 #[Y7 d,Y7 (Sb U 1)] F λG F=>sto F (Am a 5) (Y7 G) λF=>Ls F (Am a 5) λg=>Ca 49 #[(vi 1)] F λs F=>F.cell (Am a 5)=Y3 (Y7 g)/\Ca 48 #[(vi 7)] F λt F=>F.cell (Am a 5)=Y3 (Y7 g)/\s.size=2/\t.size=2/\Nb F (Y4 (wr (wr (#[Za Y6,vi 0,.bool Y6,vi 0]:Γ) 0 s.toList) 2 t.toList) 63) λV F=>Ca 81 #[Zg ⟨#[99,97,108,108]⟩,(vi 0),Y7 (Sb V 2)] F λu F=>F.cell (Am a 5)=Y3 (Y7 g)/\u.size=13/\Nb F (Y4 u 55) λW F=>Ap 33 #[Y7 g,Y7 (Sb W 1)] F λH F=>sto F (Am a 5) (Y7 H) λF=>Ls F (Am a 5) λe=>Ca 48 #[(vi 3)] F λv F=>F.cell (Am a 5)=Y3 (Y7 e)/\Ca 49 #[(vi 0)] F λw F=>F.cell (Am a 5)=Y3 (Y7 e)/\Ca 48 #[(vi 4)] F λx F=>F.cell (Am a 5)=Y3 (Y7 e)/\v.size=2/\w.size=2/\x.size=2/\Nb F (Y4 (wr (wr (wr (#[Za Y6,vi 0,.bool Y6,vi 0,.bool Y6,vi 0]:Γ) 0 v.toList) 2 w.toList) 4 x.toList) 63) λX F=>Ca 81 #[Zg ⟨#[98,108,111,99,107]⟩,(vi 0),Y7 (Sb X 3)] F λy F=>F.cell (Am a 5)=Y3 (Y7 e)/\y.size=13/\Nb F (Y4 y 55) λY F=>Ap 33 #[Y7 e,Y7 (Sb Y 1)] F λI F=>sto F (Am a 5) (Y7 I) λF=>Ls F (Am a 5) λh=>Ca 48 #[(vi 0)] F λz F=>F.cell (Am a 5)=Y3 (Y7 h)/\z.size=2/\Nb F (Y4 z 63) λZ F=>Ca 81 #[Zg ⟨#[119,111,114,100]⟩,(vi 1),Y7 (Sb Z 1)] F λA F=>F.cell (Am a 5)=Y3 (Y7 h)/\A.size=13/\Nb F (Y4 A 55) λaa F=>Ap 33 #[Y7 h,Y7 (Sb aa 1)] F λJ F=>sto F (Am a 5) (Y7 J) λF=>Ls F (Am a 5) λK=>Ix K 3 λL=>sto F (Zb (Zb L (Zd 3*13)) 5) (Za Y8) λF=>Lr F 2 (Am N 0) λb=>((Ca 85 #[(vi 0)] F λi F=>F.row (Am N 0) b/\i.size=2/\Nb F (Y4 #[(vi 5),(vi 6)] 3) λM F=>b.size=2/\(wr (Zl (Zl (Zl zF 0 (vi 2)) 2 (vi 2)) 3 (vi 1)) 7 i.toList).size=9/\(wr (Zl (Zl zF 0 (vi 5)) 6 (Y7 (Sb M 2))) 7 b.toList).size=9/\Nb F (Y4 (wr (wr (#[vi 0,vi 0,vi 0,vi 0,vi 0,vi 0,.slice Y5 0 0,.slice Y5 0 0,vi 0,vi 0,vi 0,vi 0,vi 0,vi 0,vi 0,.slice Y5 0 0,.slice Y5 0 0,vi 0]:Γ) 0 (wr (Zl (Zl (Zl zF 0 (vi 2)) 2 (vi 2)) 3 (vi 1)) 7 i.toList).toList) 9 (wr (Zl (Zl zF 0 (vi 5)) 6 (Y7 (Sb M 2))) 7 b.toList).toList) 156) λab F=>sto F (Am a 8) (Y7 (Sb ab 2)) λF=>pm b0 a R F)/\(Nb F (Y4 #[(vi 5),(vi 6)] 3) λj F=>b.size=2/\Ca 85 #[(vi 0)] F λc F=>F.row (Am N 0) b/\c.size=2/\(wr (Zl (Zl (Zl zF 0 (vi 2)) 2 (vi 2)) 3 (vi 1)) 7 c.toList).size=9/\(wr (Zl (Zl zF 0 (vi 5)) 6 (Y7 (Sb j 2))) 7 b.toList).size=9/\Nb F (Y4 (wr (wr (#[vi 0,vi 0,vi 0,vi 0,vi 0,vi 0,.slice Y5 0 0,.slice Y5 0 0,vi 0,vi 0,vi 0,vi 0,vi 0,vi 0,vi 0,.slice Y5 0 0,.slice Y5 0 0,vi 0]:Γ) 0 (wr (Zl (Zl (Zl zF 0 (vi 2)) 2 (vi 2)) 3 (vi 1)) 7 c.toList).toList) 9 (wr (Zl (Zl zF 0 (vi 5)) 6 (Y7 (Sb j 2))) 7 b.toList).toList) 156) λB F=>sto F (Am a 8) (Y7 (Sb B 2)) λF=>pm b0 a R F))
theorem Q7 (h:LU R F):ν 130 #[] F R:=Rx.Λ (.Y2 (.Y2 (.Y2 (.Y2 (.Y2 (.Y2 (.Y2 (.Y2 (.Y2 (.J Y6 [] .N .N)))))))))) h
def LV (R:VR) (F:PH):Prop:=Nb F (Y4 zG 37) λb0 F=>Nb F (Y4 #[Zg ⟨#[76]⟩,Zg ⟨#[73]⟩] 9) λb2 F=>Ca 46 #[Y7 (Sb b2 2)] F λaf F=>Nb F (Y4 zG 37) λa F=>au F (Am a 0) 9 af λF=>Ls F (Am a 5) λK=>Nb F (Y4 #[] 63) λb6 F=>Ca 81 #[Zg ⟨#[101,109,112,116,121]⟩,(vi 0),Y7 (Sb b6 0)] F λL F=>F.cell (Am a 5)=Y3 (Y7 K)/\L.size=13/\Nb F (Y4 L 55) λb8 F=>Ap 33 #[Y7 K,Y7 (Sb b8 1)] F λag F=>sto F (Am a 5) (Y7 ag) λF=>Ls F (Am a 5) λf=>Ca 49 #[(vi 0)] F λi F=>F.cell (Am a 5)=Y3 (Y7 f)/\Ca 49 #[(vi 1)] F λj F=>F.cell (Am a 5)=Y3 (Y7 f)/\i.size=2/\j.size=2/\Nb F (Y4 (wr (wr (#[Za Y6,vi 0,.bool Y6,vi 0]:Γ) 0 i.toList) 2 j.toList) 63) λah F=>Ca 81 #[Zg ⟨#[109,111,114,101]⟩,(vi 0),Y7 (Sb ah 2)] F λk F=>F.cell (Am a 5)=Y3 (Y7 f)/\k.size=13/\Nb F (Y4 k 55) λai F=>Ap 33 #[Y7 f,Y7 (Sb ai 1)] F λM F=>sto F (Am a 5) (Y7 M) λF=>Ls F (Am a 5) λd=>Ca 48 #[(vi 1)] F λl F=>F.cell (Am a 5)=Y3 (Y7 d)/\Ca 48 #[(vi 0)] F λm F=>F.cell (Am a 5)=Y3 (Y7 d)/\Ca 48 #[(vi 7)] F λn F=>F.cell (Am a 5)=Y3 (Y7 d)/\l.size=2/\m.size=2/\n.size=2/\Nb F (Y4 (wr (wr (wr (#[Za Y6,vi 0,.bool Y6,vi 0,.bool Y6,vi 0]:Γ) 0 l.toList) 2 m.toList) 4 n.toList) 63) λaj F=>Ca 81 #[Zg ⟨#[116,121,112,101]⟩,(vi 1),Y7 (Sb aj 3)] F λo F=>F.cell (Am a 5)=Y3 (Y7 d)/\o.size=13/\Nb F (Y4 o 55) λak F=>Ap 33 #[Y7 d,Y7 (Sb ak 1)] F λN F=>sto F (Am a 5) (Y7 N) λF=>Ls F (Am a 5) λb=>Ca 48 #[(vi 0)] F λp F=>F.cell (Am a 5)=Y3 (Y7 b)/\Ca 48 #[(vi 2)] F λq F=>F.cell (Am a 5)=Y3 (Y7 b)/\Ca 48 #[(vi 0)] F λr F=>F.cell (Am a 5)=Y3 (Y7 b)/\Ca 48 #[(vi 7)] F λs F=>F.cell (Am a 5)=Y3 (Y7 b)/\p.size=2/\q.size=2/\r.size=2/\s.size=2/\Nb F (Y4 (wr (wr (wr (wr (#[Za Y6,vi 0,.bool Y6,vi 0,.bool Y6,vi 0,.bool Y6,vi 0]:Γ) 0 p.toList) 2 q.toList) 4 r.toList) 6 s.toList) 63) λal F=>Ca 81 #[Zg ⟨#[112,111,105,110,116,101,114]⟩,(vi 1),Y7 (Sb al 4)] F λt F=>F.cell (Am a 5)=Y3 (Y7 b)/\t.size=13/\Nb F (Y4 t 55) λam F=>Ap 33 #[Y7 b,Y7 (Sb am 1)] F λO F=>sto F (Am a 5) (Y7 O) λF=>Ls F (Am a 5) λc=>Ca 48 #[(vi 0)] F λu F=>F.cell (Am a 5)=Y3 (Y7 c)/\Ca 48 #[(vi 2)] F λv F=>F.cell (Am a 5)=Y3 (Y7 c)/\Ca 48 #[(vi 0)] F λw F=>F.cell (Am a 5)=Y3 (Y7 c)/\Ca 48 #[(vi 7)] F λx F=>F.cell (Am a 5)=Y3 (Y7 c)/\u.size=2/\v.size=2/\w.size=2/\x.size=2/\Nb F (Y4 (wr (wr (wr (wr (#[Za Y6,vi 0,.bool Y6,vi 0,.bool Y6,vi 0,.bool Y6,vi 0]:Γ) 0 u.toList) 2 v.toList) 4 w.toList) 6 x.toList) 63) λan F=>Ca 81 #[Zg ⟨#[112,114,111,100,117,99,116]⟩,(vi 1),Y7 (Sb an 4)] F λy F=>F.cell (Am a 5)=Y3 (Y7 c)/\y.size=13/\Nb F (Y4 y 55) λao F=>Ap 33 #[Y7 c,Y7 (Sb ao 1)] F λP F=>sto F (Am a 5) (Y7 P) λF=>Ls F (Am a 5) λe=>Ca 48 #[(vi 3)] F λz F=>F.cell (Am a 5)=Y3 (Y7 e)/\Ca 49 #[(vi 0)] F λA F=>F.cell (Am a 5)=Y3 (Y7 e)/\Ca 48 #[(vi 4)] F λB F=>F.cell (Am a 5)=Y3 (Y7 e)/\z.size=2/\A.size=2/\B.size=2/\Nb F (Y4 (wr (wr (wr (#[Za Y6,vi 0,.bool Y6,vi 0,.bool Y6,vi 0]:Γ) 0 z.toList) 2 A.toList) 4 B.toList) 63) λap F=>Ca 81 #[Zg ⟨#[105,110,110,101,114]⟩,(vi 1),Y7 (Sb ap 3)] F λC F=>F.cell (Am a 5)=Y3 (Y7 e)/\C.size=13/\Nb F (Y4 C 55) λaq F=>Ap 33 #[Y7 e,Y7 (Sb aq 1)] F λQ F=>sto F (Am a 5) (Y7 Q) λF=>Ls F (Am a 5) λg=>Ca 48 #[(vi 0)] F λD F=>F.cell (Am a 5)=Y3 (Y7 g)/\Ca 48 #[(vi 7)] F λE F=>F.cell (Am a 5)=Y3 (Y7 g)/\D.size=2/\E.size=2/\Nb F (Y4 (wr (wr (#[Za Y6,vi 0,.bool Y6,vi 0]:Γ) 0 D.toList) 2 E.toList) 63) λar F=>Ca 81 #[Zg ⟨#[115,116,114,105,99,116]⟩,(vi 1),Y7 (Sb ar 2)] F λG F=>F.cell (Am a 5)=Y3 (Y7 g)/\G.size=13/\Nb F (Y4 G 55) λav F=>Ap 33 #[Y7 g,Y7 (Sb av 1)] F λS F=>sto F (Am a 5) (Y7 S) λF=>Ls F (Am a 5) λT=>Ix T 2 λU=>au F (Zb (Zb U (Zd 2*13)) 8) 5 (#[Za Y6,(vi 2),(vi 1),vi 0,vi 0]:Γ) λF=>Ls F (Am a 5) λV=>Ix V 3 λW=>au F (Zb (Zb W (Zd 3*13)) 8) 5 (#[Za Y6,(vi 3),(vi 2),(vi 1),(vi 2)]:Γ) λF=>Ls F (Am a 5) λX=>Ix X 4 λY=>au F (Zb (Zb Y (Zd 4*13)) 8) 5 (#[Za Y6,vi 0,vi 0,(vi 1),(vi 5)]:Γ) λF=>Ls F (Am a 5) λZ=>Ix Z 5 λaa=>au F (Zb (Zb aa (Zd 5*13)) 8) 5 (#[Za Y8,vi 0,vi 0,vi 0,vi 0]:Γ) λF=>Ls F (Am a 5) λab=>Ix ab 6 λac=>au F (Zb (Zb ac (Zd 6*13)) 8) 5 (#[Za Y6,vi 0,vi 0,(vi 1),(vi 6)]:Γ) λF=>Ls F (Am a 5) λad=>Ix ad 4 λae=>sto F (Zb (Zb ae (Zd 4*13)) 6) (vi (-1:Int)) λF=>Ls F (Am a 5) λh=>Ca 85 #[(vi 0)] F λH F=>F.cell (Am a 5)=Y3 (Y7 h)/\Ix h 6 λI=>au F (Zb (Zb I (Zd 6*13)) 3) 2 H λF=>Lr F 9 (Am a 0) λJ=>au F (Am b0 0) 9 J λF=>Rr 9 (Am b0 0) R F
theorem Q8 (h:LV R F):ν 131 #[] F R:=Rx.Λ .N h
def LW (R:VR) (F:PH):Prop:=Nb F (Y4 zG 37) λX F=>Nb F (Y4 #[Zg ⟨#[66]⟩,Zg ⟨#[73]⟩] 9) λY F=>Ca 46 #[Y7 (Sb Y 2)] F λK F=>Nb F (Y4 zG 37) λa F=>au F (Am a 0) 9 K λF=>Ls F (Am a 5) λs=>Ca 49 #[(vi 1)] F λt F=>F.cell (Am a 5)=Y3 (Y7 s)/\t.size=2/\Nb F (Y4 t 63) λZ F=>Ca 81 #[Zg ⟨#[111,110,101]⟩,(vi 0),Y7 (Sb Z 1)] F λu F=>F.cell (Am a 5)=Y3 (Y7 s)/\u.size=13/\Nb F (Y4 u 55) λb9 F=>Ap 33 #[Y7 s,Y7 (Sb b9 1)] F λv F=>sto F (Am a 5) (Y7 v) λF=>Ls F (Am a 5) λc=>Ca 49 #[(vi 0)] F λf F=>F.cell (Am a 5)=Y3 (Y7 c)/\Ca 49 #[(vi 1)] F λg F=>F.cell (Am a 5)=Y3 (Y7 c)/\f.size=2/\g.size=2/\Nb F (Y4 (wr (wr (#[Za Y6,vi 0,.bool Y6,vi 0]:Γ) 0 f.toList) 2 g.toList) 63) λL F=>Ca 81 #[Zg ⟨#[108,105,115,116]⟩,(vi 0),Y7 (Sb L 2)] F λh F=>F.cell (Am a 5)=Y3 (Y7 c)/\h.size=13/\Nb F (Y4 h 55) λM F=>Ap 33 #[Y7 c,Y7 (Sb M 1)] F λw F=>sto F (Am a 5) (Y7 w) λF=>Ls F (Am a 5) λe=>Ca 48 #[(vi 0)] F λi F=>F.cell (Am a 5)=Y3 (Y7 e)/\i.size=2/\Nb F (Y4 i 63) λN F=>Ca 81 #[Zg ⟨#[119,111,114,100]⟩,(vi 1),Y7 (Sb N 1)] F λj F=>F.cell (Am a 5)=Y3 (Y7 e)/\j.size=13/\Nb F (Y4 j 55) λO F=>Ap 33 #[Y7 e,Y7 (Sb O 1)] F λx F=>sto F (Am a 5) (Y7 x) λF=>Ls F (Am a 5) λb=>Ca 48 #[(vi 5)] F λk F=>F.cell (Am a 5)=Y3 (Y7 b)/\Ca 48 #[(vi 0)] F λl F=>F.cell (Am a 5)=Y3 (Y7 b)/\Ca 49 #[(vi 0)] F λm F=>F.cell (Am a 5)=Y3 (Y7 b)/\k.size=2/\l.size=2/\m.size=2/\Nb F (Y4 (wr (wr (wr (#[Za Y6,vi 0,.bool Y6,vi 0,.bool Y6,vi 0]:Γ) 0 k.toList) 2 l.toList) 4 m.toList) 63) λP F=>Ca 81 #[Zg ⟨#[104,101,97,100]⟩,(vi 1),Y7 (Sb P 3)] F λn F=>F.cell (Am a 5)=Y3 (Y7 b)/\n.size=13/\Nb F (Y4 n 55) λQ F=>Ap 33 #[Y7 b,Y7 (Sb Q 1)] F λy F=>sto F (Am a 5) (Y7 y) λF=>Ls F (Am a 5) λd=>Ca 48 #[(vi 5)] F λo F=>F.cell (Am a 5)=Y3 (Y7 d)/\Ca 49 #[(vi 0)] F λp F=>F.cell (Am a 5)=Y3 (Y7 d)/\o.size=2/\p.size=2/\Nb F (Y4 (wr (wr (#[Za Y6,vi 0,.bool Y6,vi 0]:Γ) 0 o.toList) 2 p.toList) 63) λS F=>Ca 81 #[Zg ⟨#[108,105,110,101]⟩,(vi 1),Y7 (Sb S 2)] F λq F=>F.cell (Am a 5)=Y3 (Y7 d)/\q.size=13/\Nb F (Y4 q 55) λT F=>Ap 33 #[Y7 d,Y7 (Sb T 1)] F λz F=>sto F (Am a 5) (Y7 z) λF=>Ls F (Am a 5) λA=>(#[(vi 2),(vi 0),(vi 1)]:Γ).size=3/\Nb F (Y4 (#[(vi 2),(vi 0),(vi 1)]:Γ) 153) λU F=>Ix A 1 λB=>sto F (Zb (Zb B (Zd 1*13)) 7) (Y7 (Sb U 1)) λF=>Ls F (Am a 5) λC=>(#[(vi 3),(vi 0),(vi 2)]:Γ).size=3/\(#[(vi 1),(vi 2),vi 0]:Γ).size=3/\Nb F (Y4 (wr (wr (#[vi 0,vi 0,vi 0,vi 0,vi 0,vi 0]:Γ) 0 (#[(vi 3),(vi 0),(vi 2)]:Γ).toList) 3 (#[(vi 1),(vi 2),vi 0]:Γ).toList) 153) λV F=>Ix C 3 λD=>sto F (Zb (Zb D (Zd 3*13)) 7) (Y7 (Sb V 2)) λF=>Ls F (Am a 5) λE=>(#[(vi 4),(vi 0),(vi 1)]:Γ).size=3/\Nb F (Y4 (#[(vi 4),(vi 0),(vi 1)]:Γ) 153) λW F=>Ix E 4 λG=>sto F (Zb (Zb G (Zd 4*13)) 7) (Y7 (Sb W 1)) λF=>Ls F (Am a 5) λr=>Ca 85 #[(vi 0)] F λH F=>F.cell (Am a 5)=Y3 (Y7 r)/\Ix r 4 λI=>au F (Zb (Zb I (Zd 4*13)) 3) 2 H λF=>Lr F 9 (Am a 0) λJ=>au F (Am X 0) 9 J λF=>Rr 9 (Am X 0) R F
theorem Q9 (h:LW R F):ν 132 #[] F R:=Rx.Λ .N h
def LX (R:VR) (F:PH):Prop:=Nb F (Y4 zG 37) λb0 F=>Nb F (Y4 #[Zg ⟨#[83]⟩,Zg ⟨#[87]⟩,Zg ⟨#[86]⟩] 9) λb2 F=>Ca 46 #[Y7 (Sb b2 3)] F λO F=>Nb F (Y4 zG 37) λa F=>au F (Am a 0) 9 O λF=>Ls F (Am a 5) λh=>Ca 49 #[(vi 1)] F λw F=>F.cell (Am a 5)=Y3 (Y7 h)/\Ca 49 #[(vi 2)] F λx F=>F.cell (Am a 5)=Y3 (Y7 h)/\w.size=2/\x.size=2/\Nb F (Y4 (wr (wr (#[Za Y6,vi 0,.bool Y6,vi 0]:Γ) 0 w.toList) 2 x.toList) 63) λb8 F=>Ca 81 #[Zg ⟨#[112,97,105,114]⟩,(vi 0),Y7 (Sb b8 2)] F λy F=>F.cell (Am a 5)=Y3 (Y7 h)/\y.size=13/\Nb F (Y4 y 55) λP F=>Ap 33 #[Y7 h,Y7 (Sb P 1)] F λz F=>sto F (Am a 5) (Y7 z) λF=>Ls F (Am a 5) λe=>Ca 48 #[(vi 0)] F λi F=>F.cell (Am a 5)=Y3 (Y7 e)/\i.size=2/\Nb F (Y4 i 63) λQ F=>Ca 81 #[Zg ⟨#[115,105,110,103,108,101]⟩,(vi 1),Y7 (Sb Q 1)] F λj F=>F.cell (Am a 5)=Y3 (Y7 e)/\j.size=13/\Nb F (Y4 j 55) λS F=>Ap 33 #[Y7 e,Y7 (Sb S 1)] F λA F=>sto F (Am a 5) (Y7 A) λF=>Ls F (Am a 5) λb=>Ca 48 #[(vi 0)] F λk F=>F.cell (Am a 5)=Y3 (Y7 b)/\Ca 48 #[(vi 0)] F λl F=>F.cell (Am a 5)=Y3 (Y7 b)/\k.size=2/\l.size=2/\Nb F (Y4 (wr (wr (#[Za Y6,vi 0,.bool Y6,vi 0]:Γ) 0 k.toList) 2 l.toList) 63) λT F=>Ca 81 #[Zg ⟨#[100,111,117,98,108,101]⟩,(vi 1),Y7 (Sb T 2)] F λm F=>F.cell (Am a 5)=Y3 (Y7 b)/\m.size=13/\Nb F (Y4 m 55) λU F=>Ap 33 #[Y7 b,Y7 (Sb U 1)] F λB F=>sto F (Am a 5) (Y7 B) λF=>Ls F (Am a 5) λn=>Nb F (Y4 #[] 63) λV F=>Ca 81 #[Zg ⟨#[110,111,110,101]⟩,(vi 2),Y7 (Sb V 0)] F λo F=>F.cell (Am a 5)=Y3 (Y7 n)/\o.size=13/\Nb F (Y4 o 55) λW F=>Ap 33 #[Y7 n,Y7 (Sb W 1)] F λC F=>sto F (Am a 5) (Y7 C) λF=>Ls F (Am a 5) λc=>Ca 48 #[(vi 0)] F λp F=>F.cell (Am a 5)=Y3 (Y7 c)/\Ca 49 #[(vi 2)] F λq F=>F.cell (Am a 5)=Y3 (Y7 c)/\p.size=2/\q.size=2/\Nb F (Y4 (wr (wr (#[Za Y6,vi 0,.bool Y6,vi 0]:Γ) 0 p.toList) 2 q.toList) 63) λX F=>Ca 81 #[Zg ⟨#[110,101,120,116]⟩,(vi 2),Y7 (Sb X 2)] F λr F=>F.cell (Am a 5)=Y3 (Y7 c)/\r.size=13/\Nb F (Y4 r 55) λY F=>Ap 33 #[Y7 c,Y7 (Sb Y 1)] F λD F=>sto F (Am a 5) (Y7 D) λF=>Ls F (Am a 5) λd=>Ca 48 #[(vi 1)] F λs F=>F.cell (Am a 5)=Y3 (Y7 d)/\Ca 49 #[(vi 2)] F λt F=>F.cell (Am a 5)=Y3 (Y7 d)/\s.size=2/\t.size=2/\Nb F (Y4 (wr (wr (#[Za Y6,vi 0,.bool Y6,vi 0]:Γ) 0 s.toList) 2 t.toList) 63) λZ F=>Ca 81 #[Zg ⟨#[109,97,114,107]⟩,(vi 2),Y7 (Sb Z 2)] F λu F=>F.cell (Am a 5)=Y3 (Y7 d)/\u.size=13/\Nb F (Y4 u 55) λaa F=>Ap 33 #[Y7 d,Y7 (Sb aa 1)] F λE F=>sto F (Am a 5) (Y7 E) λF=>Ls F (Am a 5) λG=>Ix G 1 λH=>sto F (Zb (Zb H (Zd 1*13)) 6) (vi (-1:Int)) λF=>Ls F (Am a 5) λv=>Ca 85 #[(vi 1)] F λI F=>F.cell (Am a 5)=Y3 (Y7 v)/\Ix v 5 λJ=>au F (Zb (Zb J (Zd 5*13)) 3) 2 I λF=>Nb F (Y4 #[(vi 0)] 3) λK F=>Ca 85 #[(vi 0)] F λf F=>f.size=2/\Nb F (Y4 #[(vi 1)] 3) λL F=>Ca 85 #[(vi 1)] F λM F=>Ca 86 #[Y9 M] F λg F=>g.size=2/\(wr (Zl (Zl (Zl zF 0 (vi 3)) 4 (vi 1)) 6 (Y7 (Sb K 1))) 7 f.toList).size=9/\(wr (Zl (Zl (Zl zF 0 (vi 4)) 4 (vi 2)) 6 (Y7 (Sb L 1))) 7 g.toList).size=9/\Nb F (Y4 (wr (wr (#[vi 0,vi 0,vi 0,vi 0,vi 0,vi 0,.slice Y5 0 0,.slice Y5 0 0,vi 0,vi 0,vi 0,vi 0,vi 0,vi 0,vi 0,.slice Y5 0 0,.slice Y5 0 0,vi 0]:Γ) 0 (wr (Zl (Zl (Zl zF 0 (vi 3)) 4 (vi 1)) 6 (Y7 (Sb K 1))) 7 f.toList).toList) 9 (wr (Zl (Zl (Zl zF 0 (vi 4)) 4 (vi 2)) 6 (Y7 (Sb L 1))) 7 g.toList).toList) 156) λab F=>sto F (Am a 8) (Y7 (Sb ab 2)) λF=>Lr F 9 (Am a 0) λN=>au F (Am b0 0) 9 N λF=>Rr 9 (Am b0 0) R F
theorem Ra (h:LX R F):ν 133 #[] F R:=Rx.Λ .N h
def LY (R:VR) (F:PH):Prop:=Nb F (Y4 zG 37) λN F=>Nb F (Y4 #[Zg ⟨#[83]⟩,Zg ⟨#[79]⟩,Zg ⟨#[80]⟩] 9) λO F=>Ca 46 #[Y7 (Sb O 3)] F λB F=>Nb F (Y4 zG 37) λa F=>au F (Am a 0) 9 B λF=>Ls F (Am a 5) λc=>Ca 49 #[(vi 1)] F λp F=>F.cell (Am a 5)=Y3 (Y7 c)/\Ca 48 #[(vi 0)] F λq F=>F.cell (Am a 5)=Y3 (Y7 c)/\Ca 49 #[(vi 1)] F λr F=>F.cell (Am a 5)=Y3 (Y7 c)/\Ca 49 #[(vi 2)] F λs F=>F.cell (Am a 5)=Y3 (Y7 c)/\p.size=2/\q.size=2/\r.size=2/\s.size=2/\Nb F (Y4 (wr (wr (wr (wr (#[Za Y6,vi 0,.bool Y6,vi 0,.bool Y6,vi 0,.bool Y6,vi 0]:Γ) 0 p.toList) 2 q.toList) 4 r.toList) 6 s.toList) 63) λC F=>Ca 81 #[Zg ⟨#[97,108,108]⟩,(vi 0),Y7 (Sb C 4)] F λe F=>F.cell (Am a 5)=Y3 (Y7 c)/\e.size=13/\Nb F (Y4 e 55) λD F=>Ap 33 #[Y7 c,Y7 (Sb D 1)] F λt F=>sto F (Am a 5) (Y7 t) λF=>Ls F (Am a 5) λf=>Nb F (Y4 #[] 63) λE F=>Ca 81 #[Zg ⟨#[110,111]⟩,(vi 1),Y7 (Sb E 0)] F λg F=>F.cell (Am a 5)=Y3 (Y7 f)/\g.size=13/\Nb F (Y4 g 55) λG F=>Ap 33 #[Y7 f,Y7 (Sb G 1)] F λu F=>sto F (Am a 5) (Y7 u) λF=>Ls F (Am a 5) λd=>Ca 48 #[(vi 1)] F λh F=>F.cell (Am a 5)=Y3 (Y7 d)/\h.size=2/\Nb F (Y4 h 63) λH F=>Ca 81 #[Zg ⟨#[121,101,115]⟩,(vi 1),Y7 (Sb H 1)] F λi F=>F.cell (Am a 5)=Y3 (Y7 d)/\i.size=13/\Nb F (Y4 i 55) λI F=>Ap 33 #[Y7 d,Y7 (Sb I 1)] F λv F=>sto F (Am a 5) (Y7 v) λF=>Ls F (Am a 5) λj=>Nb F (Y4 #[] 63) λJ F=>Ca 81 #[Zg ⟨#[101,110,100]⟩,(vi 2),Y7 (Sb J 0)] F λk F=>F.cell (Am a 5)=Y3 (Y7 j)/\k.size=13/\Nb F (Y4 k 55) λK F=>Ap 33 #[Y7 j,Y7 (Sb K 1)] F λw F=>sto F (Am a 5) (Y7 w) λF=>Ls F (Am a 5) λb=>Ca 48 #[(vi 1)] F λl F=>F.cell (Am a 5)=Y3 (Y7 b)/\Ca 49 #[(vi 2)] F λm F=>F.cell (Am a 5)=Y3 (Y7 b)/\l.size=2/\m.size=2/\Nb F (Y4 (wr (wr (#[Za Y6,vi 0,.bool Y6,vi 0]:Γ) 0 l.toList) 2 m.toList) 63) λL F=>Ca 81 #[Zg ⟨#[114,101,115,116]⟩,(vi 2),Y7 (Sb L 2)] F λn F=>F.cell (Am a 5)=Y3 (Y7 b)/\n.size=13/\Nb F (Y4 n 55) λM F=>Ap 33 #[Y7 b,Y7 (Sb M 1)] F λx F=>sto F (Am a 5) (Y7 x) λF=>Ls F (Am a 5) λo=>Ca 85 #[(vi 0)] F λy F=>F.cell (Am a 5)=Y3 (Y7 o)/\Ix o 4 λz=>au F (Zb (Zb z (Zd 4*13)) 3) 2 y λF=>Lr F 9 (Am a 0) λA=>au F (Am N 0) 9 A λF=>Rr 9 (Am N 0) R F
theorem Rb (h:LY R F):ν 134 #[] F R:=Rx.Λ .N h
def dI (c b:Nat) (R:VR) (F:PH):Prop:=Lr F 13 (Am c 0) λa=>au F (Am b 0) 13 a λF=>Rr 13 (Am b 0) R F
def LZ (p:Γ) (a:Int) (R:VR) (F:PH):Prop:=Nb F (Y4 p 55) λc F=>Nb F (Y4 zP 55) λd F=>Ls F (Am c 2) λb=>Bc ((b.len:Int)=0) (Lr F 13 (Am c 0) λg=>au F (Am d 0) 13 g λF=>Rr 13 (Am d 0) R F) (Bc ((Zk a 8)=1) (sto F (Am c 6) (vi 1) λF=>dI c d R F) (Bc ((Zk a 8)=2) (sto F (Am c 6) (vi (-1:Int)) λF=>dI c d R F) (Bc ((Zk a 8)=3) (sto F (Am c 5) (Za Y8) λF=>Lr F 13 (Am c 0) λh=>Cbo 171 #[Y9 h] F λi F=>sto F (Am c 5) (Za i) λF=>dI c d R F) (Bc ((Zk a 8)=4) ((b.len:Int)≠0/\(#[(vi (i64.wrap (1+(Zk (i64.wrap (u8.wrap (Int.tdiv a 8))) 4)))),(vi (Zk (i64.wrap (Int.tdiv (i64.wrap (u8.wrap (Int.tdiv a 8))) 4)) (b.len:Int))),(vi (i64.wrap ((b.len:Int) - 1)))]:Γ).size=3/\Nb F (Y4 (#[(vi (i64.wrap (1+(Zk (i64.wrap (u8.wrap (Int.tdiv a 8))) 4)))),(vi (Zk (i64.wrap (Int.tdiv (i64.wrap (u8.wrap (Int.tdiv a 8))) 4)) (b.len:Int))),(vi (i64.wrap ((b.len:Int) - 1)))]:Γ) 153) λq F=>sto F (Am c 7) (Y7 (Sb q 1)) λF=>Bc ((Zk (i64.wrap (u8.wrap (Int.tdiv a 8))) 4)=0) (Ls F (Am c 7) λj=>Ix j 0 λk=>sto F (Zb (Zb k (Zd 0*3)) 2) (vi 0) λF=>dI c d R F) (dI c d R F)) (Bc ((Zk a 8)=5) (sto F (Am c 8) (Za Y8) λF=>dI c d R F) (Bc ((Zk a 8)=6) (Ls F (Am c 2) λl=>(b.len:Int)≠0/\Ix l (Zk (i64.wrap (u8.wrap (Int.tdiv a 8))) (b.len:Int)) λm=>∃e,F.cell (Zb m (Zd (Zk (i64.wrap (u8.wrap (Int.tdiv a 8))) (b.len:Int))*2))=Y3 (Za e)/\Bb (e) ((b.len:Int)≠0/\au F (Am c 8) 5 (#[Za Y6,(vi (i64.wrap ((Zk (i64.wrap (u8.wrap (Int.tdiv a 8))) (b.len:Int))+1))),(vi (i64.wrap (1+(Zk (i64.wrap (u8.wrap (Int.tdiv a 8))) 2)))),vi 0,vi 0]:Γ) λF=>dI c d R F) (dI c d R F)) (Bc ((Zk a 8)=7) (Ls F (Am c 2) λn=>(b.len:Int)≠0/\Ix n (Zk (i64.wrap (u8.wrap (Int.tdiv a 8))) (b.len:Int)) λo=>∃f,F.cell (Zb o (Zd (Zk (i64.wrap (u8.wrap (Int.tdiv a 8))) (b.len:Int))*2))=Y3 (Za f)/\Bb (f) ((b.len:Int)≠0/\au F (Am c 8) 5 (#[Za Y6,vi 0,vi 0,(vi (i64.wrap ((Zk (i64.wrap (u8.wrap (Int.tdiv a 8))) (b.len:Int))+1))),(vi (i64.wrap (1+(Zk (i64.wrap (u8.wrap (Int.tdiv a 8))) 7))))]:Γ) λF=>dI c d R F) (dI c d R F)) (dI c d R F))))))))
theorem Rc {b:Γ} {a:Int} (h:LZ b a R F):ν 136 #[Y9 b,Zf .u8 a] F R:=Rx.Λ (.Y2 (.Y2 (.Y2 (.Y2 (.J Y6 [] .N .N))))) h
def BV (R:VR) (F:PH):Prop:=R (Za Y6) F
def BW (b:Ω) (_:Int) (_:Nat) (a:Int) (_:VR) (F:PH):Prop:=b (i64.wrap (a+1)) F
def vU (m n:Ω) (c:Int) (l:Nat) (a:Int) (R:VR) (b:Int) (F:PH):Prop:=Ls F (Am l 7) λd=>Ix d a λe=>Ls F (Zb e (Zd a*4)) λf=>Bc (b<(f.len:Int)) (Ls F (Am l 7) λg=>Ix g a λh=>Ls F (Zb h (Zd a*4)) λi=>Ix i b λj=>Li F (Zb j (Zd b*1)) λk=>Bc (k=c) (R (Za Y8) F) (n (i64.wrap (b+1)) F)) (BW m c l a R F)
def vV (h:Ω) (d:Int) (g:Nat) (R:VR) (a:Int) (F:PH):Prop:=Ls F (Am g 7) λe=>Bc (a<(e.len:Int)) ((∃(f:Nat->Ω) (c:Nat),f c 0 F/\∀c b F,f c b F-> vU h (nx1 f c) d g a R b F)) (BV R F)
def L0 (a:Γ) (b:Int) (R:VR) (F:PH):Prop:=Nb F (Y4 a 37) λd F=>Lp 0 F λN c F=>vV N b d R c F
theorem Rd {a:Γ} {b:Int} (h:L0 a b R F):ν 137 #[Y9 a,(vi b)] F R:=Rx.Λ (.Y2 (.J Y6 [] (.Y2 (.L [(5,.int .i64)] (.Y2 (.J Y6 [] (.Y2 (.L [(6,.int .i64)] .N)) .N)))) .N)) h
def po (u b:Nat) (c:Bool) (R:VR) (F:PH):Prop:=Bb (c) (Li F (Am b 4) λd=>Bc (0<=d) (Li F (Am b 4) λe=>Ls F (Am u 4) λf=>Bc (e<(f.len:Int)) (Lr F 9 (Am u 0) λg=>Ls F (Am b 6) λh=>Cbo 177 #[Y9 g,Y7 h,Za Y6] F λi F=>R (Za i) F) (R (Za Y6) F)) (R (Za Y6) F)) (Li F (Am b 5) λj=>Bc (j<0) (R (Za Y6) F) (Li F (Am b 5) λk=>Ls F (Am u 3) λl=>Bc ((l.len:Int)<=k) (R (Za Y6) F) (Lr F 9 (Am u 0) λm=>Ls F (Am b 6) λn=>Cbo 177 #[Y9 m,Y7 n,Za Y8] F λo F=>Bb ((!o)) (R (Za Y6) F) (Ls F (Am u 3) λp=>Li F (Am b 5) λa=>Ix p a λq=>Lr F 7 (Zb q (Zd a*7)) λr=>Nb F (Y4 zT 146) λv F=>au F (Am v 0) 7 r λF=>Li F (Am v 1) λs=>Bc (s=0) (Lx F (Am v 2) λt=>R (Za (t.toList==(ByteArray.mk #[]).toList)) F) (R (Za Y6) F)))))
def pq (h a:Nat) (b:Int) (i:Bool) (R:VR) (F:PH):Prop:=Bb (i) (Li F (Am a 1) λj=>Bc (j<0) (R (Za Y6) F) (Li F (Am a 1) λk=>Ls F (Am h 5) λl=>Bc ((l.len:Int)<=k) (R (Za Y6) F) (Li F (Am a 3) λm=>Bc (m<0) (R (Za Y6) F) (Li F (Am a 3) λn=>Ls F (Am h 5) λo=>Bc ((o.len:Int)<=n) (R (Za Y6) F) (Ls F (Am h 5) λp=>Li F (Am a 1) λd=>Ix p d λq=>Ls F (Zb (Zb q (Zd d*13)) 2) λc=>Li F (Am a 2) λr=>Bc (0<=r) (Li F (Am a 2) λs=>Bc (s<(c.len:Int)) (Li F (Am a 2) λe=>Ix c e λt=>Lb F (Zb t (Zd e*2)) λu=>Bb ((!u)) (Li F (Am a 2) λf=>Ix c f λv=>Li F (Zb (Zb v (Zd f*2)) 1) λw=>Ls F (Am h 5) λx=>Li F (Am a 3) λg=>Ix x g λy=>Li F (Zb (Zb y (Zd g*13)) 1) λz=>R (Za (decide (w=z))) F) (R (Za Y6) F)) (R (Za Y6) F)) (R (Za Y6) F)))))) (Bc (b=3) (po h a (decide (b=3)) R F) (po h a (decide (b=4)) R F))
def L3 (i j:Γ) (R:VR) (F:PH):Prop:=Nb F (Y4 i 37) λk F=>Nb F (Y4 j 156) λb F=>Li F (Am b 0) λl=>Bc (l<1) (R (Za Y6) F) (Li F (Am b 0) λc=>Bc (5<c) (R (Za Y6) F) (Lr F 2 (Am b 7) λd=>Ls F (Am k 0) λe=>Cbo 166 #[Y9 d,(vi (e.len:Int))] F λf F=>Bb ((!f)) (R (Za Y6) F) (Lr F 9 (Am b 0) λg=>Cbo 176 #[Y9 g] F λh F=>Bb ((!h)) (R (Za Y6) F) (Li F (Am b 0) λa=>Bc (a=1) (pq k b a (decide (a=1)) R F) (pq k b a (decide (a=2)) R F)))))
theorem Re {a:Γ} {b:Γ} (h:L3 a b R F):ν 138 #[Y9 a,Y9 b] F R:=Rx.Λ (.Y2 (.Y2 (.T (.Y2 (.J Y6 [(31,.bool)] .N (.Y2 (.J Y6 [(100,.bool)] .N .N)))) .N))) h
def L4 (a b:Int) (R:VR) (F:PH):Prop:=Nb F (Y4 (#[vi 0,vi 0,vi 0,vi 0,vi 0]) 149) λc F=>au F (Am c 0) 5 (#[(vi 1),(vi a),(vi b),vi 0,vi 0]:Γ) λF=>Rr 5 (Am c 0) R F
theorem Rf {a:Int} {b:Int} (h:L4 a b R F):ν 162 #[(vi a),(vi b)] F R:=Rx.Λ .N h
def L5 (a b c:Int) (R:VR) (F:PH):Prop:=Nb F (Y4 (#[vi 0,vi 0,vi 0,vi 0,vi 0]) 149) λd F=>au F (Am d 0) 5 (#[(vi a),vi 0,vi 0,(vi b),(vi c)]:Γ) λF=>Rr 5 (Am d 0) R F
theorem Rg {a:Int} {b:Int} {c:Int} (h:L5 a b c R F):ν 163 #[(vi a),(vi b),(vi c)] F R:=Rx.Λ .N h
def BX (a:ο) (R:VR) (F:PH):Prop:=R (Za (!(a.toList==(ByteArray.mk #[]).toList))) F
def pv (b:Ω) (_:ο) (a:Int) (_:VR) (F:PH):Prop:=b (i64.wrap (a+1)) F
def px (f:Ω) (b:ο) (a:Int) (c:Bool) (R:VR) (F:PH):Prop:=0<=a/\a<(b.size:Int)/\∃(hx:Zd a<b.size) (d:Int),d=((b[Zd a]'hx).toNat:Int)/\Cbo 196 #[Zf .u8 d] F λe F=>Bb ((!e)) (Bb ((!c)) (R (Za Y6) F) (Bc (a=0) (R (Za Y6) F) (pv f b a R F))) (pv f b a R F)
def vW (e:Ω) (b:ο) (R:VR) (a:Int) (F:PH):Prop:=Bc (a<(b.size:Int)) (0<=a/\a<(b.size:Int)/\∃(hx:Zd a<b.size) (c:Int),c=((b[Zd a]'hx).toNat:Int)/\Bc (48<=c) (0<=a/\a<(b.size:Int)/\∃(hx:Zd a<b.size) (d:Int),d=((b[Zd a]'hx).toNat:Int)/\px e b a (decide (d<=(57:Int))) R F) (px e b a Y6 R F)) (BX b R F)
def L6 (a:ο) (R:VR) (F:PH):Prop:=Lp 0 F λN b F=>vW N a R b F
theorem Rh {a:ο} (h:L6 a R F):ν 164 #[Zg a] F R:=Rx.Λ (.Y2 (.J Y6 [] (.Y2 (.L [(3,.int .i64)] (.Y2 (.J Y6 [] (.J Y6 [(4,.bool)] .N .N) .N)))) .N)) h
def BY (d:Sl) (a:Int) (R:VR) (F:PH):Prop:=Ix d a λb=>Lx F (Zb b (Zd a*1)) λc=>R (Za (!(c.toList==(ByteArray.mk #[]).toList))) F
def vX (h:Ω) (c:Sl) (a:Int) (R:VR) (b:Int) (F:PH):Prop:=Bc (b<a) (Ix c b λd=>Lx F (Zb d (Zd b*1)) λe=>Ix c a λf=>Lx F (Zb f (Zd a*1)) λg=>Bb ((e.toList==g.toList)) (R (Za Y6) F) (h (i64.wrap (b+1)) F)) (BY c a R F)
def L7 (a:Sl) (b:Int) (R:VR) (F:PH):Prop:=Lp 0 F λN c F=>vX N a b R c F
theorem Ri {a:Sl} {b:Int} (h:L7 a b R F):ν 165 #[Y7 a,(vi b)] F R:=Rx.Λ (.Y2 (.J Y6 [] (.Y2 (.L [(5,.int .i64)] .N)) .N)) h
def BZ (R:VR) (F:PH):Prop:=R (Za Y8) F
def vY (h:Ω) (f:Int) (g:Nat) (R:VR) (a:Int) (F:PH):Prop:=Ls F (Am g 0) λb=>Bc (a<(b.len:Int)) (Ls F (Am g 0) λc=>Ix c a λd=>Li F (Zb d (Zd a*3)) λe=>Bc (f<=e) (R (Za Y6) F) (h (i64.wrap (a+1)) F)) (BZ R F)
def L8 (a:Γ) (b:Int) (R:VR) (F:PH):Prop:=Nb F (Y4 a 31) λf F=>Lr F 2 (Am f 0) λc=>Ci 197 #[Y9 c] F λd F=>Bc (d≠0) (R (Za Y6) F) (Lp 0 F λN e F=>vY N b f R e F)
theorem Rj {a:Γ} {b:Int} (h:L8 a b R F):ν 166 #[Y9 a,(vi b)] F R:=Rx.Λ (.Y2 (.Y2 (.J Y6 [] (.Y2 (.L [(5,.int .i64)] .N)) .N))) h
def L9 (p:Γ) (q:Int) (R:VR) (F:PH):Prop:=Nb F (Y4 p 146) λa F=>Li F (Am a 1) λr=>Bc (r<0) (R (Za Y6) F) (Li F (Am a 1) λb=>Bc (2<b) (R (Za Y6) F) (Lr F 2 (Am a 5) λc=>Cbo 166 #[Y9 c,(vi q)] F λd F=>Bb ((!d)) (R (Za Y6) F) (Lx F (Am a 2) λe=>Bb ((!(e.toList==(ByteArray.mk #[]).toList))) (Ls F (Am a 3) λf=>Bc ((f.len:Int)=0) (Lx F (Am a 4) λg=>R (Za (g.toList==(ByteArray.mk #[]).toList)) F) (R (Za Y6) F)) (Ls F (Am a 3) λh=>Ci 198 #[Y7 h] F λi F=>Bc (i≠0) (R (Za Y6) F) (Li F (Am a 1) λj=>Bc (j≠0) (Lx F (Am a 4) λk=>R (Za (k.toList==(ByteArray.mk #[]).toList)) F) (Lx F (Am a 4) λl=>Bb ((!(l.toList==(ByteArray.mk #[]).toList))) (Ls F (Am a 3) λm=>Lx F (Am a 4) λn=>Cbo 199 #[Y7 m,Zg n] F λo F=>R (Za o) F) (R (Za Y6) F)))))))
theorem Rk {a:Γ} {b:Int} (h:L9 a b R F):ν 167 #[Y9 a,(vi b)] F R:=Rx.Λ .N h
def B0 (e d:Nat) (R:VR) (F:PH):Prop:=Li F (Am d 1) λa=>Bc (0<=a) (Li F (Am d 1) λb=>Ls F (Am e 4) λc=>R (Za (decide (b<(c.len:Int)))) F) (R (Za Y6) F)
def py (b:Ω) (_ _:Nat) (a:Int) (_:VR) (F:PH):Prop:=b (i64.wrap (a+1)) F
def pz (l:Ω) (k m:Nat) (c:Int) (j:Nat) (a:Int) (R:VR) (F:PH):Prop:=Li F (Am j 1) λd=>Bc (d<0) (R (Za Y6) F) (Li F (Am j 1) λe=>Bc (a<=e) (R (Za Y6) F) (Lb F (Am j 0) λf=>Bb (f) (Ls F (Am k 3) λg=>Li F (Am j 1) λb=>Ix g b λh=>Li F (Zb (Zb h (Zd b*7)) 1) λi=>Bc (i≠0) (R (Za Y6) F) (py l k m c R F)) (py l k m c R F)))
def vZ (l:Ω) (b c:Nat) (R:VR) (a:Int) (F:PH):Prop:=Ls F (Am c 2) λd=>Bc (a<(d.len:Int)) (Ls F (Am c 2) λe=>Ix e a λf=>Lr F 2 (Zb f (Zd a*2)) λg=>Nb F (Y4 (#[Za Y6,vi 0]) 63) λk F=>au F (Am k 0) 2 g λF=>Ls F (Am b 4) λh=>Lb F (Am k 0) λi=>Bb (i) (Ls F (Am b 3) λj=>pz l b c a k (j.len:Int) R F) (pz l b c a k (h.len:Int) R F)) (B0 b c R F)
def Ma (a b:Γ) (R:VR) (F:PH):Prop:=Nb F (Y4 a 37) λd F=>Nb F (Y4 b 55) λe F=>Lp 0 F λN c F=>vZ N d e R c F
theorem Rl {a:Γ} {b:Γ} (h:Ma a b R F):ν 168 #[Y9 a,Y9 b] F R:=Rx.Λ (.Y2 (.J Y6 [] (.Y2 (.L [(5,.int .i64)] (.Y2 (.J Y6 [] (.Y2 (.Y2 (.J Y6 [(7,.int .i64)] .N .N))) .N)))) .N)) h
def B1 (R:VR) (F:PH):Prop:=R (Za Y8) F
def pC (b:Ω) (_:Nat) (a:Int) (_:VR) (F:PH):Prop:=b (i64.wrap (a+1)) F
def v8 (r:Ω) (c:Nat) (R:VR) (a:Int) (F:PH):Prop:=Ls F (Am c 7) λq=>Bc (a<(q.len:Int)) (Ls F (Am c 7) λd=>Ix d a λe=>Lr F 3 (Zb e (Zd a*3)) λf=>Nb F (Y4 (#[vi 0,vi 0,vi 0]) 153) λb F=>au F (Am b 0) 3 f λF=>Li F (Am b 0) λg=>Bc (g<1) (R (Za Y6) F) (Li F (Am b 0) λh=>Bc (4<h) (R (Za Y6) F) (Li F (Am b 1) λi=>Bc (i<0) (R (Za Y6) F) (Li F (Am b 1) λj=>Ls F (Am c 2) λk=>Bc ((k.len:Int)<=j) (R (Za Y6) F) (Li F (Am b 2) λl=>Bc (l<0) (R (Za Y6) F) (Li F (Am b 2) λm=>Ls F (Am c 2) λn=>Bc ((n.len:Int)<=m) (R (Za Y6) F) (Li F (Am b 0) λo=>Bc (o=1) (Li F (Am b 2) λp=>Bc (p≠0) (R (Za Y6) F) (pC r c a R F)) (pC r c a R F)))))))) (B1 R F)
def Mb (a:Γ) (R:VR) (F:PH):Prop:=Nb F (Y4 a 55) λc F=>Lp 0 F λN b F=>v8 N c R b F
theorem Rm {a:Γ} (h:Mb a R F):ν 169 #[Y9 a] F R:=Rx.Λ (.Y2 (.J Y6 [] (.Y2 (.L [(3,.int .i64)] (.Y2 (.J Y6 [] .N .N)))) .N)) h
def fS (b a:Bool) (R:VR) (F:PH):Prop:=Bb (b) (R (Za a) F) (R (Za Y6) F)
def fU (e:Nat) (a:Bool) (R:VR) (F:PH):Prop:=Li F (Am e 3) λf=>Bc (f=0) (Li F (Am e 4) λg=>Bc (g=0) (fS a Y8 R F) (Li F (Am e 3) λh=>Bc (h≠0) (Li F (Am e 4) λi=>Bc (0<=i) (Li F (Am e 4) λj=>fS a (decide (j<=(255:Int))) R F) (fS a Y6 R F)) (fS a Y6 R F))) (Li F (Am e 3) λb=>Bc (b≠0) (Li F (Am e 4) λc=>Bc (0<=c) (Li F (Am e 4) λd=>fS a (decide (d<=(255:Int))) R F) (fS a Y6 R F)) (fS a Y6 R F))
def Mc (o:Γ) (R:VR) (F:PH):Prop:=Nb F (Y4 o 55) λp F=>Lr F 5 (Am p 8) λq=>Nb F (Y4 (#[Za Y6,vi 0,vi 0,vi 0,vi 0]) 53) λa F=>au F (Am a 0) 5 q λF=>Lr F 13 (Am p 0) λr=>Li F (Am a 1) λe=>Cbo 200 #[Y9 r,(vi e)] F λf F=>Bb ((!f)) (R (Za Y6) F) (Lr F 13 (Am p 0) λg=>Li F (Am a 3) λh=>Cbo 200 #[Y9 g,(vi h)] F λi F=>Bb ((!i)) (R (Za Y6) F) (Li F (Am a 1) λj=>Bc (j=0) (Li F (Am a 2) λk=>Bc (k=0) (fU a Y8 R F) (Li F (Am a 1) λl=>Bc (l≠0) (Li F (Am a 2) λm=>Bc (1<=m) (Li F (Am a 2) λn=>fU a (decide (n<=(7:Int))) R F) (fU a Y6 R F)) (fU a Y6 R F))) (Li F (Am a 1) λb=>Bc (b≠0) (Li F (Am a 2) λc=>Bc (1<=c) (Li F (Am a 2) λd=>fU a (decide (d<=(7:Int))) R F) (fU a Y6 R F)) (fU a Y6 R F))))
theorem Ro {a:Γ} (h:Mc a R F):ν 170 #[Y9 a] F R:=Rx.Λ (.Y2 (.Y2 (.Y2 (.J Y6 [(4,.bool)] .N (.J Y6 [(5,.bool)] .N .N))))) h
def Md (r:Γ) (R:VR) (F:PH):Prop:=Nb F (Y4 r 55) λa F=>Ls F (Am a 2) λs=>Bc ((s.len:Int)≠3) (R (Za Y6) F) (Li F (Am a 6) λt=>Bc (t≠0) (R (Za Y6) F) (Ls F (Am a 7) λd=>Bc ((0:Int)<(d.len:Int)) (R (Za Y6) F) (Lr F 5 (Am a 8) λe=>∃b,(∀F,rdo prog (Op.equal 53 (Y9 e) (Y9 (#[Za Y6,vi 0,vi 0,vi 0,vi 0]:Γ))) F b)/\Bb ((!b)) (R (Za Y6) F) (Ls F (Am a 2) λf=>Ix f 0 λg=>Lb F (Zb g (Zd 0*2)) λh=>Bb (h) (Ls F (Am a 2) λi=>Ix i 2 λj=>Lb F (Zb j (Zd 2*2)) λk=>Bb (k) (Ls F (Am a 2) λl=>Ix l 1 λm=>Lb F (Zb m (Zd 1*2)) λn=>Bb ((!n)) (Ls F (Am a 2) λo=>Ix o 1 λp=>∃c,F.cell (Zb (Zb p (Zd 1*2)) 1)=Y3 (vi c)/\Li F (Am a 1) λq=>R (Za (decide (c=q))) F) (R (Za Y6) F)) (R (Za Y6) F)) (R (Za Y6) F)))))
theorem Rp {a:Γ} (h:Md a R F):ν 171 #[Y9 a] F R:=Rx.Λ .N h
def pD (d:Nat) (a:Bool) (R:VR) (F:PH):Prop:=Bb (a) (Li F (Am d 0) λe=>Bc (e=5) (R (Za Y8) F) (Li F (Am d 5) λf=>R (Za (decide (f=0))) F)) (Li F (Am d 4) λg=>Bc (g=0) (Li F (Am d 0) λb=>Bc (b=5) (R (Za Y8) F) (Li F (Am d 5) λc=>R (Za (decide (c=0))) F)) (R (Za Y6) F))
def jP (c:Nat) (R:VR) (F:PH):Prop:=Li F (Am c 0) λa=>Bc (a=3) (pD c Y8 R F) (Li F (Am c 0) λb=>pD c (decide (b=4)) R F)
def pE (b:Nat) (a:Bool) (R:VR) (F:PH):Prop:=Bb ((!a)) (Li F (Am b 1) λd=>Bc (d≠0) (R (Za Y6) F) (Li F (Am b 2) λe=>Bc (e≠0) (R (Za Y6) F) (Li F (Am b 3) λf=>Bc (f≠0) (R (Za Y6) F) (Bb (a) (Ls F (Am b 6) λg=>Bc ((0:Int)<(g.len:Int)) (R (Za Y6) F) (jP b R F)) (jP b R F))))) (Bb (a) (Ls F (Am b 6) λc=>Bc ((0:Int)<(c.len:Int)) (R (Za Y6) F) (jP b R F)) (jP b R F))
def Me (c:Γ) (R:VR) (F:PH):Prop:=Nb F (Y4 c 156) λb F=>Li F (Am b 0) λd=>Bc (d=1) (pE b Y8 R F) (Li F (Am b 0) λa=>pE b (decide (a=2)) R F)
theorem Rq {a:Γ} (h:Me a R F):ν 176 #[Y9 a] F R:=Rx.Λ (.Y2 (.J Y6 [(3,.bool)] .N (.J Y6 [] .N (.J Y6 [(4,.bool)] .N .N)))) h
def B2 (a:Sl) (R:VR) (F:PH):Prop:=R (Za (decide ((0:Int)<(a.len:Int)))) F
def pF (c:Ω) (_:Sl) (_:Bool) (_:Nat) (b:Int) (_:VR) (F:PH):Prop:=c (i64.wrap (b+1)) F
def pG (m:Ω) (d:Sl) (a:Bool) (k:Nat) (b:Int) (R:VR) (F:PH):Prop:=Ls F (Am k 3) λe=>Ix d b λf=>Li F (Zb f (Zd b*1)) λc=>Ix e c λg=>Lr F 7 (Zb g (Zd c*7)) λh=>Nb F (Y4 zT 146) λl F=>au F (Am l 0) 7 h λF=>Bb (a) (Lx F (Am l 2) λi=>Bb ((i.toList==(ByteArray.mk #[]).toList)) (R (Za Y6) F) (pF m d a k b R F)) (Li F (Am l 1) λj=>Bc (j≠0) (R (Za Y6) F) (pF m d a k b R F))
def wa (n:Ω) (c:Sl) (a:Bool) (m:Nat) (R:VR) (b:Int) (F:PH):Prop:=Bc (b<(c.len:Int)) (Ix c b λe=>Li F (Zb e (Zd b*1)) λf=>Bc (f<0) (R (Za Y6) F) (Ix c b λg=>Li F (Zb g (Zd b*1)) λh=>Ls F (Am m 3) λi=>Bc ((i.len:Int)<=h) (R (Za Y6) F) (Bc (0<b) (Ix c b λj=>Li F (Zb j (Zd b*1)) λk=>Ix c (i64.wrap (b - 1)) λl=>∃d,F.cell (Zb l (Zd (i64.wrap (b - 1))*1))=Y3 (vi d)/\Bc (k<=d) (R (Za Y6) F) (pG n c a m b R F)) (pG n c a m b R F)))) (B2 c R F)
def Mf (b:Γ) (c:Sl) (a:Bool) (R:VR) (F:PH):Prop:=Nb F (Y4 b 37) λe F=>Lp 0 F λN d F=>wa N c a e R d F
theorem Rs {b:Γ} {c:Sl} {a:Bool} (h:Mf b c a R F):ν 177 #[Y9 b,Y7 c,Za a] F R:=Rx.Λ (.Y2 (.J Y6 [] (.Y2 (.L [(7,.int .i64)] (.Y2 (.J Y6 [] (.J Y6 [] .N .N) .N)))) .N)) h
def Mg (a:Int) (R:VR) (F:PH):Prop:=Bc (97<=a) (Bc (a<=(122:Int)) (R (Za Y8) F) (Bc (65<=a) (Bc (a<=(90:Int)) (R (Za Y8) F) (R (Za (decide (a=95))) F)) (R (Za (decide (a=95))) F))) (Bc (65<=a) (Bc (a<=(90:Int)) (R (Za Y8) F) (R (Za (decide (a=95))) F)) (R (Za (decide (a=95))) F))
theorem Rt {a:Int} (h:Mg a R F):ν 196 #[Zf .u8 a] F R:=Rx.Λ .N h
def Mh (f:Γ) (a:Int) (R:VR) (F:PH):Prop:=Nb F (Y4 f 55) λg F=>Bc (a=0) (R (Za Y8) F) (Bc (0<a) (Ls F (Am g 2) λc=>Bc (a<=(c.len:Int)) (Ls F (Am g 2) λd=>Ix d (i64.wrap (a - 1)) λe=>∃b,F.cell (Zb e (Zd (i64.wrap (a - 1))*2))=Y3 (Za b)/\R (Za b) F) (R (Za Y6) F)) (R (Za Y6) F))
theorem Rv {a:Γ} {b:Int} (h:Mh a b R F):ν 200 #[Y9 a,(vi b)] F R:=Rx.Λ .N h
end

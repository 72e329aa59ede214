/-
  The examples of the chapter: what their facts are, in plain Lean.
-/
import Derived.Test.YtcemhghkipgdiaaGreatDoorAz
import Derived.Test.YtcemhghkipgdiaaGreatDoorAt
import Derived.Test.YtcemhghkipgdiaaGreatDoorAm
import Derived.Test.YtcemhghkipgdiaaGreatDoorAb
namespace Go.Proofs.YtcemhghkipgdiaaGreatDoor
open Go Go.Proofs.Tryz Tr
set_option maxRecDepth 10000
abbrev Ns:=List (Int×Sl×Φ)
def nsF:Ns->Int->Option Value
 |[],_=>none
 |e::l,a=>if a=e.1 then some e.2.1.v else nsF l a
def nsL:Ns->Int->Φ
 |[],_=>[]
 |e::l,a=>if a=e.1 then e.2.2 else nsL l a
theorem qX {e:Int×Sl×Φ} {l:Ns} {a:Int} (h:a=e.1):nsF (e::l) a=some e.2.1.v:=if_pos h
theorem mH {e:Int×Sl×Φ} {l:Ns} {a:Int} (h:a≠e.1):nsF (e::l) a=nsF l a:=if_neg h
theorem mI {e:Int×Sl×Φ} {l:Ns} {a:Int} (h:a=e.1):nsL (e::l) a=e.2.2:=if_pos h
theorem kf {e:Int×Sl×Φ} {l:Ns} {a:Int} (h:a≠e.1):nsL (e::l) a=nsL l a:=if_neg h
def nsO (l:Ns):List (Ψ):=l.map λe=>own e.2.1 3 1 (e.2.2.map vi)
section
variable {G F:PH}
theorem St.init {As Bs:List (Ψ)} (h:St G F (As++Bs)):St G F As:=h.pick id (λ_ _ _ _ e=>e) λi hi=>by rw [id,SJ hi]
theorem St.mid {A:Ψ} {Ps Qs:List (Ψ)} (h:St G F (Ps++A::Qs)):St G F (A::(Ps++Qs)):=by
 refine h.pick (λi=>if i=0 then Ps.length else if i<=Ps.length then i - 1 else i) (λi j _ _ e=> ?_) (λi hi=> ?_)
 ·split at e<;>split at e<;>(try split at e)<;>(try split at e)<;>omega
 ·by_cases h0:i=0
  ·rw [if_pos h0,h0,S6 (SC _),Nat.sub_self];rfl
  ·obtain ⟨j,rfl⟩:∃j,i=j+1:=⟨i - 1,by omega⟩;rw [if_neg h0];by_cases h1:j+1<=Ps.length
   ·rw [if_pos h1,Nat.add_sub_cancel,Tu,SJ (by omega),SJ (by omega)]
   ·rw [if_neg h1,Tu,S6 (by omega),S6 (by omega)];rw [show j+1 - Ps.length=(j - Ps.length)+1 by omega,Tu]
theorem AU (a:Int):∀(l:Ns) (Ps:List (Ψ)),(l.map (·.1)).Nodup->St G F (Ps++nsO l)->∃s l',St G F (own s 3 1 ((nsL l a).map vi)::(Ps++nsO l'))/\(nsF l a).getD (Sl.v Sl.nil)=s.v/\
  (∀k,k≠a->nsF l' k=nsF l k/\nsL l' k=nsL l k)/\(l'.map (·.1)).Sublist (l.map (·.1))/\a ∉ l'.map (·.1)
 |[],Ps,_,h=>⟨Sl.nil,[],h.nilOwn _ _,rfl,λ_ _=>⟨rfl,rfl⟩,List.Sublist.refl _,by simp⟩
 |e::l,Ps,hn,h=>by
  rw [S4,Tz] at hn;by_cases he:a=e.1
  ·have h':St G F (Ps++own e.2.1 3 1 (e.2.2.map vi)::nsO l):=h;refine ⟨e.2.1,l,?_,?_,λk hk=> ?_,?_,by rw [he];exact hn.1⟩
   ·have:=h'.mid;rw [mI he];exact this
   ·rw [qX he];rfl
   ·have hk':k≠e.1:=by rw [<- he];exact hk
    exact ⟨(mH hk').symm,(kf hk').symm⟩
   ·rw [S4];exact List.sublist_cons_self _ _
  ·have h':St G F ((Ps++[own e.2.1 3 1 (e.2.2.map vi)])++nsO l):=by rw [Ta];exact h
   obtain ⟨s,l',h1,h2,h3,h4,h5⟩:=AU a l _ hn.2 h';refine ⟨s,e::l',?_,?_,λk hk=> ?_,?_,?_⟩
   ·rw [Ta] at h1;rw [kf he];exact h1
   ·rw [mH he];exact h2
   ·obtain ⟨g1,g2⟩:=h3 k hk;by_cases ke:k=e.1
    ·rw [qX ke,qX ke,mI ke,mI ke];exact ⟨rfl,rfl⟩
    ·rw [mH ke,mH ke,kf ke,kf ke];exact ⟨g1,g2⟩
   ·rw [S4,S4];exact h4.cons_cons _
   ·rw [S4,Sw,not_or];exact ⟨he,h5⟩
theorem EN:∀(l:Ns) {G:PH},St G F (nsO l)->∃G',G.le G'/\(∀e∈l,RL G' e.2.1 e.2.2)/\St G' F []
 |[],G,h=>⟨G,aq _,λ_ h=>(by cases h),h⟩
 |e::l,G,h=>by
  have h':St G F (own e.2.1 3 1 (e.2.2.map vi)::nsO l):=h;obtain ⟨G1,l1,hd,h1⟩:=h'.pinO;obtain ⟨G2,l2,hall,h2⟩:=EN l h1;refine ⟨G2,aa l1 l2,λx hx=> ?_,h2⟩;rcases Sw.1 hx with rfl|hx
  ·exact RL.ints.2 (hd.le l2)
  ·exact hall x hx
theorem EO {a:Int}:∀{l:Ns},(nsF l a=none/\nsL l a=[])\/∃e∈l,nsF l a=some e.2.1.v/\nsL l a=e.2.2
 |[]=> .inl ⟨rfl,rfl⟩
 |e::l=>by
  by_cases he:a=e.1
  ·rw [qX he,mI he];exact .inr ⟨e,by simp,rfl,rfl⟩
  ·rw [mH he,kf he];rcases EO (a:=a) (l:=l) with h|⟨x,hx,h⟩
   ·exact .inl h
   ·exact .inr ⟨x,SN _ hx,h⟩
end
section
variable {G F:PH} {g:Gr} {ms b4:Nat} {a0:Θ} {T:Int×Int->Tr} {R:VR} {K:List (Int×Int)}
theorem PA {es:Array MapEntry} {c:Nat} {L:List ((Int×Int)×Value)} {mp:Int×Int->Option Value} (q4:G b4=some (.cells #[.map (some ms)] 113)) (qs:G ms=some (.map es c)) (hL:rb bM mp es c L) (hS:i6 G T mp) (hK:∀n,mp n≠none->n∈K) (hKl:K.length<=1000000)
  (h:St G F []) (fin:∀G' F' b14 mn nx,G.le G'->CyE G' b14 mn b4 ms nx T->(∀a b,T (a,b)≠leaf false->b∈nx a)->(∀a b,b∈nx a->(a,b)∈K)->(∀a,(nx a).length<=K.length)->St G' F' []->uZ a0 b4 b14 R F'):
  u0 a0 b4 R F:=by
 obtain ⟨_,_,TI⟩:=LO;unfold u0;refine h.newMap aI λmn F1 h=> ?_;refine h.var1 λb14 G1 F2 l1 q14 h=> ?_;have hesl:es.size<=K.length:=by rw [hL.len,<- SM (f:=(·.1))];refine gb hL.nodup λx hx=> ?_;obtain ⟨p,hp,rfl⟩:=SL.1 hx;refine hK _ ?_;rw [hL.lk,(jx hL.nodup).2 hp];simp
 refine ⟨_,ld (h.le _ _ (l1 _ _ q4)) rfl,?_⟩;refine h.rangeG underlying113 bM (h.le _ _ (l1 _ _ qs)) λb100 F3 h=> ?_
 refine ⟨λq F'=>∃(G':PH) (ks:List (Int×Int)) (l:Ns),q=es.size - ks.length/\G1.le G'/\ks.Nodup/\(∀n∈ks,∃v,mp n=some v)/\(l.map (·.1)).Nodup/\(∀a b,b∈nsL l a↔(a,b)∈ks)/\(∀a,(nsL l a).length<=ks.length)/\
  ∃Bs,St G' F' ([itG bM ms b100 es c ks,mpE mn aI (nsF l)]++nsO l++Bs),es.size,⟨G1,[],[],rfl,aq _,List.nodup_nil,λ_ h=>(by cases h),List.nodup_nil,λa b=>by simp [nsL],λa=>by simp [nsL],[],h⟩,?_⟩
 rintro q F4 ⟨G2,ks,l,rfl,l2,hkn,hks,hln,hlk,hll,Bs,h⟩;replace h:St G2 F4 (itG bM ms b100 es c ks::mpE mn aI (nsF l)::nsO l):=St.init (As:=[itG bM ms b100 es c ks,mpE mn aI (nsF l)]++nsO l) h;unfold Fl;have l12:=aa l1 l2;refine h.nextG hL wJ hkn hks (h.le _ _ (l12 _ _ qs)) (λhall=> ?_) λn v F5 hnv hnk hlt h hr hent=> ?_
 ·refine ⟨_,rfl,false,rfl,λhc=>(by cases hc),λ_=> ?_⟩;have h1:=h.tail;obtain ⟨G3,l3,⟨H,⟨o,e1,e2⟩,hH⟩,h2⟩:=h1.pin;obtain ⟨G4,l4,hRL,h3⟩:=EN l h2;have l24:=aa l2 (aa l3 l4);have l14:=aa l1 l24;refine fin G4 F4 b14 mn (nsL l) l14 ⟨l24 _ _ q14,l14 _ _ q4,⟨o,_,l4 _ _ (hH _ _ e1),e2,λa=> ?_⟩,⟨_,mp,l14 _ _ qs,⟨es,c,L,rfl,hL.eq,hL.lk⟩,hS.le l14⟩⟩ (λa b hT=> ?_) (λa b hb=> ?_) (λa=> ?_) h3
  ·rcases EO (a:=a) (l:=l) with h|⟨e,he,g1,g2⟩
   ·exact .inl h
   ·exact .inr ⟨e.2.1,g1,by rw [g2];exact hRL e he⟩
  ·refine (hlk a b).2 ?_;rcases hS (a,b) with ⟨_,e⟩|⟨w,e,_⟩
   ·exact absurd e hT
   ·exact hall _ _ e
  ·obtain ⟨v,hv⟩:=hks _ ((hlk a b).1 hb);exact hK _ (by rw [hv];simp)
  ·have hsub:ks.length<=K.length:=gb hkn λx hx=>by obtain ⟨v,hv⟩:=hks x hx;exact hK _ (by rw [hv];simp)
   exact TO (hll a) hsub
 ·refine ⟨_,rfl,true,rfl,λ_=> ?_,λhc=>(by cases hc)⟩;refine ⟨_,hent,ul n,rfl,?_⟩;refine h.var (by simp [ak]) (λb15 G3 F6 l3 q15 h=> ?_) rfl rfl;have l13:=aa l2 l3;have q143:=l13 _ _ q14;have c0:∀{G' F':PH} {As:List (Ψ)},G3.le G'->St G' F' As->F'.cell (Addr.add (Addr.mk b15 0 none) (Int.toNat (0:Int)*1))=some (vi n.1):=λl h=>by rw [aC];exact ld (h.le _ _ (l _ _ q15)) rfl
  have c14:∀{G' F':PH} {As:List (Ψ)},G3.le G'->St G' F' As->F'.cell (Addr.mk b14 0 none)=some (.map (some mn)):=λl h=>ld (h.le _ _ (l _ _ q143)) rfl;obtain ⟨s,l',h,hsv,hoth,hsl,hna⟩:=AU n.1 l [itG bM ms b100 es c (ks++[n]),mpE mn aI (nsF l)] hln h;have h:St G3 F6 (own s 3 1 ((nsL l n.1).map vi)::itG bM ms b100 es c (ks++[n])::mpE mn aI (nsF l)::nsO l'):=h;have hlook:=h.lookAt (i:=2) rfl LP n.1 false;rw [if_neg TX,hsv] at hlook;refine ⟨_,c14 (aq _) h,by decide,by decide,_,c0 (aq _) h,_,c14 (aq _) h,by decide,by decide,_,c0 (aq _) h,s,hlook,by decide,by decide,n.2,?_,?_⟩
  ·rw [aC];exact ld (h.le _ _ q15) rfl
  ·have hslen:s.len=(nsL l n.1).length:=by have:=(ca.rd (h.ownAt (i:=0) rfl).1).len;rw [SM,Tb] at this;exact this.symm
   have hbl:=hll n.1;refine h.push0 TI (c:= #[vi n.2]) rfl (by simp [ak]) (by omega) λs' G4 F7 l4 h hs'=> ?_;refine ⟨c0 l4 h,c14 l4 h,c0 l4 h,c14 l4 h,?_⟩;refine h.updAt 2 rfl LP n.1 (Sl.v s') λF8 h=> ?_;have hln':((n.1,s',nsL l n.1++[n.2])::l').map (·.1)=n.1::l'.map (·.1):=rfl;refine ⟨es.size - (ks++[n]).length,by rw [SF,SO];omega,G4,ks++[n],(n.1,s',nsL l n.1++[n.2])::l',rfl,aa l13 l4,?_,λx hx=> ?_,?_,λa b=> ?_,λa=> ?_,[],?_⟩
   ·rw [S7];exact ⟨hkn,by simp,λa ha b hb e=>hnk (by rw [SA.1 hb] at e;rw [<- e];exact ha)⟩
   ·rcases SD.1 hx with hx|hx
    ·exact hks x hx
    ·rw [SA.1 hx];exact ⟨v,hnv⟩
   ·rw [hln',Tz];exact ⟨hna,hsl.nodup hln⟩
   ·by_cases e:a=n.1
    ·rw [mI e,SD,SA,SD,SA,e,hlk];exact or_congr_right ⟨λh=>by rw [h],λh=>congrArg Prod.snd h⟩
    ·rw [kf e,(hoth a e).2,hlk,SD,SA];exact ⟨.inl,λh=>h.resolve_right λh=>e (congrArg Prod.fst h)⟩
   ·have:=hll a;by_cases e:a=n.1
    ·rw [mI e,SF,SF,SO,SO];omega
    ·rw [kf e,(hoth a e).2,SF];omega
   ·have em:(λk'=>if k'=n.1 then some (Sl.v s') else nsF l k')=nsF ((n.1,s',nsL l n.1++[n.2])::l'):=by
     funext k';by_cases e:k'=n.1
     ·rw [if_pos e,qX e]
     ·rw [if_neg e,mH e,(hoth k' e).1]
    rw [em] at h;have h2:=h.back2;rw [Tn];have e3:nsO ((n.1,s',nsL l n.1++[n.2])::l')=own s' 3 1 ((nsL l n.1).map vi++[vi n.2])::nsO l':=by unfold nsO;rw [S4,Tf];rfl
    rw [e3];exact h2
end
theorem wG {κ:Type} (k:Nat) (S:κ->Tr):∀keys:List κ,mu k keys S<=keys.length*2 ^ k
 |[]=>Nat.zero_le _
 |x::l=>by
  have:=wG k S l;have e:mu k (x::l) S=(2 ^ k - wt k (S x))+mu k l S:=by unfold mu;rw [S4,List.sum_cons]
  rw [e,ST,Ue,T7,Nat.add_comm];exact Nat.add_le_add this (Nat.sub_le _ _)
theorem RdS.at6 {F:PH} {s:Sl} {vs:Ξ} (h:RdS F s 1 vs) {i:Nat} {v:Value} (hi:vs[i]? =some v):∃a,s.base=some a/\0<=(i:Int)/\(i:Int)<(s.len:Int)/\F.cell (Addr.add a (Int.toNat (i:Int)*1))=some v:=by obtain ⟨hlt,rfl⟩:=N6.1 hi;have hl:=h.len;obtain ⟨b,o,h1,h2⟩:=h.cells (by omega);refine ⟨_,h1,by omega,by omega,?_⟩;rw [N4,Tb,aC];exact h2 i hlt
theorem Hm {G G0 F:PH} {As:List (Ψ)} {m i:Nat} {S:Int->Tr} (h:St G F As) (hi:As[i]? =some (mS aI G0 m S)) (l0:G0.le G) (n:Int):∃w,rdo prog (Instr.lookup 95 (.map (some m)) (vi n) false) F (.agg w)/\DV G w (dia (S n)):=by
 obtain ⟨o,mp,h1,h2,h3⟩:=h.mS_at hi;have hl:=bE (F:=F) wS h1 h2 n false;rcases h3 n with ⟨e1,e2⟩|⟨w,e1,e2⟩
 ·rw [e1] at hl;exact ⟨zD,hl,by rw [e2];exact DV.mk (s:=Sl.nil) (d:=dia (leaf false)) (RL.nil G)⟩
 ·rw [e1] at hl;exact ⟨w,hl,e2.le l0⟩
section
variable {G F:PH} {g:Gr} {k ms mn ban b4 b14:Nat} {T:Int×Int->Tr} {nx:Int->Φ} {R:VR}
theorem PB {K:List (Int×Int)} (hk:OkK g k) (hn:g.nons.length<=1000000) (hAn:AnV G ban g) (E:CyE G b14 mn b4 ms nx T) (hT:wO k g.prods (aF g) T) (h1:∀a b,T (a,b)≠leaf false->b∈nx a) (h2:∀a b,b∈nx a->(a,b)∈K) (h3:∀a,(nx a).length<=K.length) (hKl:K.length<=1000000)
  (h:St G F []) (fin:∀G' F' mo C,G.le G'->lP k g.nons.length g.prods (aF g) C->St G' F' [mG aI (dc g.nons.length) G' mo C]->R (.map (some mo)) F'):
  uZ (some (Addr.mk ban 0 none)) b4 b14 R F:=by
 obtain ⟨_,_,TI⟩:=LO;obtain ⟨c,n,t,s,p,lv,f,q,qa,hs,hq⟩:=hAn.ex;have es:=hs.s.len (by decide);have hfam:DV G #[n.v,vi g.fam.2] (dia (tre g.fam)):=by rw [<- hk.fam.2];exact DV.mk hs.n
 have hkeys:∀a,∀m∈nx a,m∈K.map (·.2):=λa m hm=>SL.2 ⟨_,h2 a m hm,rfl⟩;have hkl:(K.map (·.2)).length*2 ^ k<=64000000:=by rw [SM];have:2 ^ k<=64:=TO (Ti (by decide) hk.le) (by decide);exact TO (Nat.mul_le_mul hKl this) (by decide)
 unfold uZ;refine h.new λmo F1 h=> ?_;have h:=h.mG_new aI (dc g.nons.length);refine ⟨_,rfl,_,by rw [aC];exact ld (h.le _ _ qa) rfl,?_⟩
 refine bu (yR · (Addr.mk ban 0 none) b4 b14 mo s R) g.nons.length (λi F'=>∃(G':PH) (C:Int->Tr),G.le G'/\Sxs k C/\(∀(a:Nat) c,a<i->((C a).ev c=true↔Tg (Stp g.prods (aF g) c) a a))/\(∀a:Nat,i<=a->C a=leaf false)/\
  ∃Bs,St G' F' (mG aI (dc g.nons.length) G' mo C::Bs)) ⟨G,_,aq _,λ_=>Sx.leaf k false,λa c ha=>by omega,λ_ _=>rfl,[],h⟩ ?_
 rintro i F2 N1 hi ⟨G2,C,l2,hC,hC1,hC2,Bs,h⟩ next;replace h:=h.hd;have E2:=E.le l2;unfold yR;refine ⟨λhlt=> ?_,λhge=> ?_⟩
 ·have hlt:i<g.nons.length:=by omega
  obtain ⟨sn,hlk,hsn⟩:=E2.look h.le (i:Int);have hsl:=hsn.len (by decide);refine ⟨_,ld (h.le _ _ E2.q14) rfl,sn,hlk,λh0=> ?_,λh0=> ?_⟩
  ·have e0:nx (i:Int)=[]:=SU (by omega);unfold uY;rw [aE hlt (by omega)];refine next _ hlt ⟨G2,C,l2,hC,λa c ha=> ?_,λa ha=>hC2 a (by omega),[],h⟩;by_cases e:a=i
   ·subst e;rw [hC2 a (SC _)];refine ⟨λh=>(by cases h),λtg=> ?_⟩;obtain ⟨d,hd⟩:=tg.head;have:=(hT.iff ((a:Int),d) c).2 hd;have hin:=h1 a d λe=>by rw [e] at this;cases this
    rw [e0] at hin;cases hin
   ·exact hC1 a c (by omega)
  ·refine h.new λmr F3 h=> ?_;have h:=h.toMap aI;refine h.var1 λb18 G3 F4 l3 q18 h=> ?_;refine h.new λb132 F5 h=> ?_;have h:=h.imp (A':=que 3 (Sl.mk (some (Addr.mk b132 0 none)) 0 0) []) 0 rfl λH _ hH=>B9 hH;refine h.new λb19 F6 h=> ?_;refine h.set0 (w':= #[Sl.v (Sl.mk (some (Addr.mk b132 0 none)) 0 0)]) (by show 0<1;decide) rfl λF7 h=> ?_;have l23:=aa l2 l3;refine ⟨#[n.v,vi g.fam.2],rfl,by rw [aC];exact mb (h.le _ _ (l23 _ _ qa)) rfl,?_⟩;have h:St G3 F7 (mS aI G3 mr (λ_=>leaf false)::pt b19 (.cells #[Sl.v (Sl.mk (some (Addr.mk b132 0 none)) 0 0)] 67)::que 3 (Sl.mk (some (Addr.mk b132 0 none)) 0 0) (([]:Φ).map vi)::[mG aI (dc g.nons.length) G2 mo C]):=
    (h.front2).imp 0 rfl λ_ _ hH=>mS.le hH l3
   refine (nD (keys:=K.map (·.2)) hk.le (E.le l23) q18 hT.sx hk.fam.1 (hfam.le l23) (λ_=>Sx.leaf k false) (λm=>h1 _ m) (λm=>hkeys _ m) (by have:=h3 i;omega) (by simp) h).mono ?_;rintro _ F8 ⟨G4,R4,ps,qs4,rfl,l4,hv,h⟩;have l34:=aa l23 l4;refine ⟨rfl,?_⟩;have hmu0:=wG k (λ_:Int=>leaf false) (K.map (·.2))
   refine ⟨λq F'=>∃(G':PH) (R':Int->Tr) (qq:Φ) (qs':Sl),q=mu k (K.map (·.2)) R'+qq.length/\G4.le G'/\q<=64000000/\Bfs k g.prods (aF g) T (tre g.fam) i R' qq/\
    St G' F' (mS aI G' mr R'::pt b19 (.cells #[Sl.v qs'] 67)::que 3 qs' (qq.map vi)::[mG aI (dc g.nons.length) G2 mo C]),_,⟨G4,R4,ps,qs4,rfl,aq _,by have:=hv.mu;omega,Bfs.start hT hv,h⟩,?_⟩
   rintro q F9 ⟨G5,R5,qq,qs5,rfl,l5,hq5,hb,h⟩;have l35:=aa l34 l5;have q185:=l5 _ _ (l4 _ _ q18);have hqd:=h.queAt (i:=2) rfl;have hql:=hqd.len;rw [SM,Tb] at hql;have hqc:=hqd.cap;unfold Fj;refine ⟨_,ld (h.ptAt (i:=1) rfl) rfl,λhpos=> ?_,λhz=> ?_⟩
   ·cases qq with
    |nil=>rw [List.length_nil] at hql;omega
    |cons m qq=>
     obtain ⟨a,g1,g2,g3,g4⟩:=hqd.at6 (i:=0) (v:=vi m) rfl;refine ⟨_,ld (h.ptAt (i:=1) rfl) rfl,a,g1,g2,g3,m,g4,_,ld (h.ptAt (i:=1) rfl) rfl,by omega,hqc,?_⟩;refine h.set1 (w':= #[Sl.v (Sl.cut qs5 1 1 qs5.len qs5.cap)]) (by show 0<1;decide) rfl λF10 h=> ?_;have h:=h.imp (A':=que 3 (Sl.cut qs5 1 1 qs5.len qs5.cap) (qq.map vi)) 2 rfl λH _ hH=>Hu hH;rw [ST] at hq5;refine ⟨λhne=> ?_,λhe=> ?_⟩
     ·obtain ⟨w,hlw,hw⟩:=Hm h (i:=0) rfl (aq _) m;refine ⟨_,ld (h.le _ _ q185) rfl,w,hlw,?_⟩;refine (nD (keys:=K.map (·.2)) hk.le (E.le l35) q185 hT.sx (hb.sx m) hw hb.sx (λm'=>h1 _ m') (λm'=>hkeys _ m') (by have:=h3 m;omega) (by omega) h).mono ?_;rintro _ F11 ⟨G6,R6,ps6,qs6,rfl,l6,hv6,h⟩;have:=hv6.mu;exact ⟨rfl,_,by rw [ST];show mu k (K.map (·.2)) R6+(qq++ps6).length<_;rw [SF];omega,G6,R6,qq++ps6,qs6,rfl,aa l5 l6,by rw [SF];omega,hb.visit hT hv6,h⟩
     ·have he:m=(i:Int):=by simpa using he
      subst he;exact ⟨_,by rw [ST];show mu k (K.map (·.2)) R5+qq.length<_;omega,G5,R5,qq,_,rfl,l5,by omega,hb.skip,h⟩
   ·have e0:qq=[]:=SU (by omega);subst e0;unfold Fh;refine ⟨_,ld (h.le _ _ q185) rfl,?_⟩;refine (eZ h (aq _) (i:Int)).mono ?_;rintro _ F10 ⟨G6,w,rfl,hw,l6,h⟩;refine ⟨w,rfl,?_⟩;have l26:G2.le G6:=aa l3 (aa l4 (aa l5 l6));refine h.mG_put wS wK 3 rfl l26 (SE (rj hlt)) hw λF11 h=> ?_;unfold uY;rw [aE hlt (by omega)];refine next _ hlt ⟨G6,_,aa l2 l26,hC.upd (hb.sx _),λa c ha=> ?_,λa ha=> ?_,_,h.front3⟩
    ·unfold eC;by_cases e:a=i
     ·rw [if_pos (by rw [e]),e];exact hb.fin hT (λa b c=>hk.stp_fam) c
     ·rw [if_neg (by omega)];exact hC1 a c (by omega)
    ·unfold eC;rw [if_neg (by omega)];exact hC2 a (by omega)
 ·have e:i=g.nons.length:=by omega
  subst e;unfold Ff;exact fin G2 F2 mo C l2 ⟨hC,λa c ha=>hC1 a c ha⟩ h
end
section
variable {G F:PH} {g:Gr} {k:Nat}
theorem eL (h:OkG g):g.prods.length<=2000/\g.nons.length<=2000/\g.toks.length<=256/\∀x∈g.prods,x.right.length<=16:=by have hl:=h.large;unfold dN at hl;rw [Bool.or_eq_false_iff,List.any_eq_false] at hl;have:=of_decide_eq_false hl.1;refine ⟨by omega,by omega,by omega,λx hx=> ?_⟩;have h2:=hl.2 x hx;rw [decide_eq_true_eq] at h2;omega
theorem wH {ban:Nat} (hk:OkK g k) (hAn:AnV G ban g) (h:St G F []):
  aj prog 59 #[.pointer (some ⟨ban,0,none⟩)] F λr F'=>∃G' mo C,r=.map (some mo)/\G.le G'/\lP k g.nons.length g.prods (aF g) C/\St G' F' [mG aI (dc g.nons.length) G' mo C]:=by
 obtain ⟨o1,o2,o3,o4⟩:=eL hk.ok;have hl:∀x∈g.prods,x.right.length<=1000000:=λx hx=>by have:=o4 x hx;omega
 have hKl:(ip g.prods).length<=1000000:=by have:=Ce o4;omega
 refine Se ?_;unfold PZ;refine (cK hk hl (by omega) hAn h).mono ?_;rintro _ F1 ⟨G1,mnn,N,rfl,l1,hN,h⟩;refine ⟨_,rfl,?_⟩;refine h.new λms F2 h=> ?_;have h:=h.mG_new bM (ip g.prods);refine h.var1 λb4 G2 F3 l2 q4 h=> ?_;obtain ⟨c,n,t,s,p,lv,f,q,qa,hs,hq⟩:=(hAn.le (aa l1 l2)).ex;refine ⟨_,rfl,_,by rw [aC];exact ld (h.le _ _ qa) rfl,?_⟩;refine PI hk hN.sx l2 hl (by omega) hs.p ⟨c,n,t,s,p,lv,f,qa⟩ hq q4 (h.imp 0 rfl λ_ _ hH=>mG.le hH l2) λG3 F4 l3 h=> ?_;obtain ⟨G4,l4,⟨H,⟨o,mp,e1,⟨es,cc,L,rfl,hL⟩,e3,e4⟩,hH⟩,h⟩:=h.pin;refine PA (l4 _ _ (l3 _ _ q4)) (hH _ _ e1) hL (e3.le l4) e4 hKl h λG5 F5 b14 mn nx l5 E5 g1 g2 g3 h=> ?_;have l15:=aa l1 (aa l2 (aa l3 (aa l4 l5)));refine PB hk (by omega) (hAn.le l15) E5 (Hv hN hk.prs) g1 g2 g3 hKl h λG6 F6 mo C l6 hC h=> ?_;exact ⟨G6,mo,C,rfl,aa l15 l6,hC,h⟩
end
theorem LF:aB prog 58=true:=by kernel_rfl
theorem LH:aB prog 71=true:=by kernel_rfl
def LI (k:Nat) (g:Gr) (ds:List Dia):Prop:=∃C,lP k g.nons.length g.prods (aF g) C/\ds=eN C g.nons.length
def kg (g:Gr):Prop:=∃(n:Nat) (c:Cf),n<g.nons.length/\Tg (Stp g.prods (aF g) c) n n
section
variable {G F:PH} {g:Gr} {k:Nat}
theorem lL {ban:Nat} {As:List (Ψ)} (hk:OkK g k) (hAn:AnV G ban g) (h:St G F As):
  aj prog 59 #[.pointer (some ⟨ban,0,none⟩)] F λr F'=>∃G' mo C,r=.map (some mo)/\G.le G'/\lP k g.nons.length g.prods (aF g) C/\St G' F' (mG aI (dc g.nons.length) G' mo C::As):=by
 have h0:St G F ([]++As):=h;refine (h0.callL (P:=λr G'=>∃mo C,r=.map (some mo)/\lP k g.nons.length g.prods (aF g) C) (Bs':=λr G'=>[λH=>∃mo C,(r=.map (some mo)/\lP k g.nons.length g.prods (aF g) C)/\mG aI (dc g.nons.length) G' mo C H]) λF1 h1=> ?_).mono ?_
 ·refine (wH hk hAn h1).mono ?_;rintro r F2 ⟨G',mo,C,h1,h2,h3,h4⟩;exact ⟨G',⟨mo,C,h1,h3⟩,h2,h4.imp 0 rfl λH _ hH=>⟨mo,C,⟨h1,h3⟩,hH⟩⟩
 ·rintro r F2 ⟨G',_,h2,h⟩;obtain ⟨mo,h⟩:=h.exI 0 rfl;obtain ⟨C,h⟩:=h.exI 0 rfl;obtain ⟨⟨e1,e2⟩,h⟩:=h.prI 0 rfl;exact ⟨G',mo,C,e1,h2,e2,h⟩
theorem uT {v:Γ} {ban b1 b2:Nat} (hk:OkK g k) (hAn:AnV G ban g) (q1:G b1=some (.cells v 37)) (hg:GV G v g)
  (h:St G F [pt b2 (.cells #[Sl.v Sl.nil] 39)]):aj prog 58 #[.pointer (some ⟨ban,0,none⟩),.pointer (some ⟨b1,0,none⟩),.pointer (some ⟨b2,0,none⟩)] F λr F'=>∃G',r=.tuple #[]/\G.le G'/\St G' F' (FA (LI k g) b2 G'):=by
 obtain ⟨o1,o2,o3,o4⟩:=eL hk.ok;obtain ⟨c,n,t,s,p,l,f,rfl,hgs⟩:=hg;have es:=hgs.s.len (by decide);refine Sd ?_;unfold PY;refine ⟨_,rfl,_,by rw [aC];exact ld (h.le _ _ q1) rfl,?_⟩;refine (lL hk hAn h).mono ?_;rintro _ F1 ⟨G1,mo,C,rfl,l1,hC,h⟩;have h:=h.imp 0 rfl λ_ _ hH=>mG.mS hH;refine ⟨_,rfl,by rw [aC];exact ld (h.le _ _ (l1 _ _ q1)) rfl,?_⟩;rw [es];refine (fb h hk.le g.nons.length (λi _=>hC.sx i) (by omega)).mono ?_;rintro _ F2 ⟨G2,sl,rfl,l2,hsl,h⟩;refine ⟨_,rfl,by rw [aC];exact ld (h.le _ _ (l2 _ _ (l1 _ _ q1))) rfl,_,rfl,?_⟩;refine h.set0 (w':= #[Sl.v sl]) (by show 0<1;decide) rfl λF3 h=>⟨G2,rfl,aa l1 l2,?_⟩;exact h.imp 0 rfl λH _ hH=>⟨sl,_,⟨C,hC,rfl⟩,hsl,hH⟩
theorem qY {v:Γ} (hT:Tab F) (hg:GV F v g) (hz:Sz g) (hk:OkK g k):
  aj prog 19 #[.agg v] F λr F'=>(∃sl ds,r=.tuple #[Sl.v sl,vi 0]/\LI k g ds/\RL F' sl ds)/\F.le F':=by
 obtain ⟨o1,o2,o3,o4⟩:=eL hk.ok;refine RZ ?_;unfold PO;refine (St.start F).newG λb1 G1 F1 l1 q1 _ h=>h.new λb2 F2 h=>⟨v,hg.size,ac (h.le _ _ q1),?_⟩;refine (dU (kr:=58) (fst:= #[]) (cap:= #[.pointer (some ⟨b1,0,none⟩),.pointer (some ⟨b2,0,none⟩)]) (Bs:=FA (LI k g) b2) (hT.le l1) (hg.le l1) hz hk (λx hx=>by have:=o4 x hx;omega) (by omega) h LF λG' ban F' l hAn h=> ?_).mono ?_
 ·have e:(#[]++ #[.pointer (some ⟨ban,0,none⟩)]++ #[.pointer (some ⟨b1,0,none⟩),.pointer (some ⟨b2,0,none⟩)]:Γ)= #[.pointer (some ⟨ban,0,none⟩),.pointer (some ⟨b1,0,none⟩),.pointer (some ⟨b2,0,none⟩)]:=by simp
  rw [e];exact uT hk hAn (l _ _ q1) ((hg.le l1).le l) h
 rintro _ F3 ⟨rfl,G3,l3,h⟩;obtain ⟨sl,ds,h1,h2,h⟩:=tu h;refine ⟨_,rfl,sl,h.ld0 rfl,?_⟩;refine h.set0 (w':= #[Sl.v sl]) (by show 0<1;decide) rfl λF4 h=>⟨_,h.ld0 rfl,⟨sl,ds,rfl,h1,h2.le h.le⟩,aa l1 (aa l3 h.le)⟩
theorem Hn {C:Int->Tr} (hC:lP k g.nons.length g.prods (aF g) C):(∃n:Nat,n<g.nons.length/\C n≠leaf false)↔kg g:=by
 constructor
 ·rintro ⟨n,hn,hne⟩;have hex:¬∀c,(C n).ev c=(leaf false).ev c:=λh=>hne (dC (hC.sx n).1 trivial h);obtain ⟨c,hc⟩:=Classical.not_forall.1 hex;refine ⟨n,c,hn,(hC.iff n c hn).1 ?_⟩;cases e:(C n).ev c with
  |true=>rfl
  |false=>rw [e] at hc;exact absurd rfl hc
 ·rintro ⟨n,c,hn,h⟩;have:=(hC.iff n c hn).2 h;exact ⟨n,hn,λe=>by rw [e] at this;cases this⟩
def PC (A:Bool->Prop) (b:Nat) (G:PH):List (Ψ):=[λH=>∃q,A q/\H b=some (.cells #[.bool q] 4)]
theorem wI {ban b3:Nat} (hk:OkK g k) (hAn:AnV G ban g)
  (h:St G F [pt b3 (.cells #[.bool false] 4)]):aj prog 71 #[.pointer (some ⟨ban,0,none⟩),.pointer (some ⟨b3,0,none⟩)] F λr F'=>∃G',r=.tuple #[]/\G.le G'/\St G' F' (PC (λq=>q=true↔kg g) b3 G'):=by
 refine Sn ?_;unfold Qc;refine (lL hk hAn h).mono ?_;rintro _ F1 ⟨G1,mo,C,rfl,l1,hC,h⟩;refine ⟨_,rfl,?_⟩;obtain ⟨G2,l2,⟨H,⟨o,mp,e1,⟨es,c,L,rfl,hL⟩,e3,e4⟩,hH⟩,h⟩:=h.pin;have qo:=hH _ _ e1;have hS:=e3.le l2;refine h.rangeG underlying95 aI (h.le _ _ qo) λb7 F2 h=> ?_
 refine ⟨λq F'=>∃(G':PH) (ks:Φ) (fd:Bool),q=es.size - ks.length/\G2.le G'/\ks.Nodup/\(∀n∈ks,∃v,mp n=some v)/\(fd=true↔∃n∈ks,C n≠leaf false)/\
  St G' F' [itG aI mo b7 es c ks,pt b3 (.cells #[.bool fd] 4)],_,⟨G2,[],false,rfl,aq _,List.nodup_nil,λ_ h=>(by cases h),by simp,h⟩,?_⟩
 rintro q F3 ⟨G3,ks,fd,rfl,l3,hkn,hks,hfd,h⟩;unfold Ft;refine h.nextG hL wK hkn hks (h.le _ _ (l3 _ _ qo)) (λhall=> ?_) λn v F4 hnv hnk hlt h hr hent=> ?_
 ·refine ⟨_,rfl,false,rfl,λhc=>(by cases hc),λ_=> ?_⟩;refine ⟨G3,rfl,aa l1 (aa l2 l3),h.tail.imp 0 rfl λH _ hH=>⟨fd,?_,hH⟩⟩;dsimp only;rw [hfd,<- Hn hC];constructor
  ·rintro ⟨n,hn,hne⟩;obtain ⟨v,hv⟩:=hks n hn;have hm:=e4 n (by rw [hv];simp);obtain ⟨i,hi,rfl⟩:=SL.1 hm;exact ⟨i,Tp.1 hi,hne⟩
  ·rintro ⟨n,hn,hne⟩;rcases hS (n:Int) with ⟨_,e⟩|⟨w,e,_⟩
   ·exact absurd e hne
   ·exact ⟨n,hall _ _ e,hne⟩
 ·refine ⟨_,rfl,true,rfl,λ_=> ?_,λhc=>(by cases hc)⟩;have hw:∃w,v=.agg w/\DV G2 w (dia (C n)):=by
   rcases hS n with ⟨e,_⟩|⟨w,e,hw⟩
   ·rw [e] at hnv;cases hnv
   ·rw [e] at hnv;cases hnv;exact ⟨w,rfl,hw⟩
  obtain ⟨w,rfl,hw⟩:=hw;refine ⟨_,hent,w,rfl,?_⟩;refine h.var hw.st (λb4 G4 F5 l4 q4 h=> ?_) rfl hw.size;have l34:=aa l3 l4;have nd:(ks++[n]).Nodup:=by rw [S7];exact ⟨hkn,by simp,λa ha b hb e=>hnk (by rw [SA.1 hb] at e;rw [<- e];exact ha)⟩
  have hks':∀x∈ks++[n],∃v,mp x=some v:=λx hx=>by
   rcases SD.1 hx with hx|hx
   ·exact hks x hx
   ·rw [SA.1 hx];exact ⟨_,hnv⟩
  have ms:es.size - (ks++[n]).length<es.size - ks.length:=by rw [SF,SO];omega
  refine ⟨_,rfl,fd,ld (h.ptAt (i:=1) rfl) rfl,λht=> ?_,λhf=> ?_⟩
  ·refine h.set1 (w':= #[.bool true]) (by show 0<1;decide) rfl λF6 h=> ?_;refine ⟨_,ms,G4,ks++[n],true,rfl,l34,nd,hks',⟨λ_=> ?_,λ_=>rfl⟩,h⟩;obtain ⟨x,hx,hne⟩:=hfd.1 ht;exact ⟨x,SD.2 (.inl hx),hne⟩
  ·obtain ⟨sd,ew,_⟩:=id hw;refine ⟨_,ld (h.le _ _ q4) (by rw [ew];rfl),?_⟩;refine h.set1 (w':= #[.bool (decide ((dia (C n)).2≠0))]) (by show 0<1;decide) rfl λF6 h=> ?_;refine ⟨_,ms,G4,ks++[n],_,rfl,l34,nd,hks',?_,h⟩;rw [decide_eq_true_eq];have hno:¬∃n∈ks,C n≠leaf false:=λh=>by rw [hfd.2 h] at hf;cases hf
   constructor
   ·intro hne;exact ⟨n,by simp,λe=>hne ((fa (hC.sx n).1).2 e)⟩
   ·rintro ⟨x,hx,hne⟩ h0;rcases SD.1 hx with hx|hx
    ·exact hno ⟨x,hx,hne⟩
    ·rw [SA.1 hx] at hne;exact hne ((fa (hC.sx n).1).1 h0)
theorem qZ {v:Γ} (hT:Tab F) (hg:GV F v g) (hz:Sz g) (hk:OkK g k):
  aj prog 23 #[.agg v] F λr F'=>(kg g/\r=vi 60\/¬kg g/\r=vi 0)/\F.le F':=by
 obtain ⟨o1,o2,o3,o4⟩:=eL hk.ok;refine R1 ?_;unfold PQ;refine (St.start F).newG λb1 G1 F1 l1 q1 _ h=>h.new λb3 F2 h=> ?_;refine h.set0 (w':= #[.bool false]) (by show 0<1;decide) rfl λF3 h=>⟨v,hg.size,ac (h.le _ _ q1),?_⟩;refine (dU (kr:=71) (fst:= #[]) (cap:= #[.pointer (some ⟨b3,0,none⟩)]) (Bs:=PC (λq=>q=true↔kg g) b3) (hT.le l1) (hg.le l1) hz hk (λx hx=>by have:=o4 x hx;omega) (by omega) h LH λG' ban F' l hAn h=> ?_).mono ?_
 ·have e:(#[]++ #[.pointer (some ⟨ban,0,none⟩)]++ #[.pointer (some ⟨b3,0,none⟩)]:Γ)= #[.pointer (some ⟨ban,0,none⟩),.pointer (some ⟨b3,0,none⟩)]:=by simp
  rw [e];exact wI hk hAn h
 rintro _ F3 ⟨rfl,G3,l3,h⟩;obtain ⟨q,h⟩:=h.exI 0 rfl;obtain ⟨hq,h⟩:=h.prI 0 rfl;have h:St G3 F3 [pt b3 (.cells #[.bool q] 4)]:=h;refine ⟨_,rfl,λ_=>⟨q,h.ld0 rfl,λht=> ?_,λhf=> ?_⟩,λe=>absurd rfl e⟩
 ·exact ⟨.inl ⟨hq.1 ht,rfl⟩,aa l1 (aa l3 h.le)⟩
 ·exact ⟨.inr ⟨λhc=>(by rw [hq.2 hc] at hf;cases hf),rfl⟩,aa l1 (aa l3 h.le)⟩
end
def mkC (nm:ByteArray) (left:Int) (right:List Sy) (d:Dia):Pr:=⟨nm,left,right,d,false,0,[],⟨false,0,0,0,0⟩⟩
def nST:List ByteArray:=[⟨#[83]⟩,⟨#[84]⟩]
def sgG (l:List Pr):Gr:={cz nST with prods:=l}
def sp1:List Pr:=[mkC ⟨#[115]⟩ 0 [⟨true,0⟩,⟨false,1⟩] aK,mkC ⟨#[116]⟩ 1 [] (dia (tv 0)),mkC ⟨#[117]⟩ 1 [⟨true,1⟩,⟨false,1⟩] (dia (tv 1))]
def sp2:List Pr:=[mkC ⟨#[115]⟩ 0 [⟨false,1⟩] aK,mkC ⟨#[116]⟩ 1 [⟨false,0⟩] (dia (tv 0)),mkC ⟨#[117]⟩ 1 [⟨true,0⟩] aK]
def sp3:List Pr:=[mkC ⟨#[115]⟩ 0 [⟨false,1⟩,⟨false,0⟩,⟨false,1⟩] (dia (tv 0)),mkC ⟨#[116]⟩ 0 [⟨true,0⟩] aK,mkC ⟨#[117]⟩ 1 [] aK]
theorem mJ {α:Type} {a b d x:α} {i:Nat} (h:[a,b,d][i]? =some x):(i=0/\x=a)\/(i=1/\x=b)\/(i=2/\x=d):=by
 match i,h with
 |0,h=>cases h;exact .inl ⟨rfl,rfl⟩
 |1,h=>cases h;exact .inr (.inl ⟨rfl,rfl⟩)
 |2,h=>cases h;exact .inr (.inr ⟨rfl,rfl⟩)
 |i+3,h=>simp at h
theorem EP {l:List Pr} (h3:(l.map Pr.name).Nodup) (h4:∀s∈l.map Pr.name,Cm s) (h5:∀p∈l,PrI 2 2 p):MG (sgG l):=
 mQ (n:=2) (by decide) rfl rfl rfl rfl (by show bz nST;unfold bz;decide) (by show ∀s∈nST,s.size<=10;decide) h3 h4 h5 ⟨trivial,λ_ h=>(by cases h)⟩ λ_ h=>by cases h
theorem JN {l:List Pr} (h0:l.length≠0) (h1:l.length<=3):Bd (sgG l) 3 0:=
 ⟨by show 2<=3;decide,by show (2:Nat)≠0;decide,by show 2<=3;decide,h0,h1,rfl,by show 0<=0;decide,λ_ h=>(by cases h),by show 0<=0;decide⟩
theorem yH:MG (sgG sp1):=EP (by decide) (by decide) λp hp=>by
 obtain ⟨i,hi⟩:=List.getElem?_of_mem hp;rcases mJ hi with ⟨_,rfl⟩|⟨_,rfl⟩|⟨_,rfl⟩
 ·exact aX (by decide) (aP _)
 ·exact aX (by decide) (dK (by decide) (by decide))
 ·exact aX (by decide) (dK (by decide) (by decide))
theorem yI:MG (sgG sp2):=EP (by decide) (by decide) λp hp=>by
 obtain ⟨i,hi⟩:=List.getElem?_of_mem hp;rcases mJ hi with ⟨_,rfl⟩|⟨_,rfl⟩|⟨_,rfl⟩
 ·exact aX (by decide) (aP _)
 ·exact aX (by decide) (dK (by decide) (by decide))
 ·exact aX (by decide) (aP _)
theorem yJ:MG (sgG sp3):=EP (by decide) (by decide) λp hp=>by
 obtain ⟨i,hi⟩:=List.getElem?_of_mem hp;rcases mJ hi with ⟨_,rfl⟩|⟨_,rfl⟩|⟨_,rfl⟩
 ·exact aX (by decide) (dK (by decide) (by decide))
 ·exact aX (by decide) (aP _)
 ·exact aX (by decide) (aP _)
theorem EQ {l:List Pr} (h:MG (sgG l)) (h0:l.length≠0) (h1:l.length<=3):OkK (sgG l) 2:=⟨h.ok (JN h0 h1) (by decide) (by decide),rfl,by decide⟩
theorem B8:∀t∈dS,t.cond=aK:=by intro t ht;have e:dS.map rQ=dS:=rfl;rw [<- e] at ht;obtain ⟨u,_,rfl⟩:=SL.1 ht;rfl
theorem lM {l:List Pr} (h:OkK (sgG l) 2) {i:Nat} {x:Pr} {t:Tr} (hx:l[i]? =some x) (hc:x.cond=dia t) (ht:t.ok) (c:Cf):(aF (sgG l) i).ev c=t.ev c:=by
 have hx':(sgG l).prods[i]? =some x:=hx;have hm:=SE hx';have e1:tre (sgG l).fam=leaf true:=gY (t:=leaf true) trivial;rw [h.prs_ev hx',e1,hc,gY ht];have:(x.right.all λs=> !s.t || (jC (sgG l) s.i).ev c)=true:=by
  rw [Tc];intro s hs;cases hst:s.t with
  |false=>rfl
  |true=>
   obtain ⟨u,hu,_⟩:=((h.prod hm).2.2.2 s hs).2.2 hst;have hu':dS[s.i.toNat]? =some u:=hu;have e2:=B8 u (SE hu');have e3:jC (sgG l) s.i=leaf true:=by unfold jC;rw [hu];dsimp only;rw [e2];exact gY (t:=leaf true) trivial
   rw [e3];rfl
 rw [this];show (true && t.ev c && true)=_;simp
theorem io (v:Nat) (c:Cf):(tv v).ev c=c v:=by show (if c v=true then true else false)=c v;cases c v<;>rfl
structure Sg (l:List Pr) (f:Nat->Tr):Prop where
 mg:MG (sgG l)
 ok:OkK (sgG l) 2
 ev:∀i x,l[i]? =some x->∀c,(aF (sgG l) i).ev c=(f i).ev c
def sf1 (i:Nat):Tr:=if i=0 then leaf true else if i=1 then tv 0 else tv 1
def sf2 (i:Nat):Tr:=if i=1 then tv 0 else leaf true
def sf3 (i:Nat):Tr:=if i=0 then tv 0 else leaf true
theorem sg1:Sg sp1 sf1:=by
 have h:=EQ yH (by decide) (by decide);refine ⟨yH,h,λi x hi c=> ?_⟩;rcases mJ hi with ⟨rfl,rfl⟩|⟨rfl,rfl⟩|⟨rfl,rfl⟩
 ·exact lM h hi (t:=leaf true) rfl trivial c
 ·exact lM h hi (t:=tv 0) rfl (p5 (by decide)) c
 ·exact lM h hi (t:=tv 1) rfl (p5 (by decide)) c
theorem sg2:Sg sp2 sf2:=by
 have h:=EQ yI (by decide) (by decide);refine ⟨yI,h,λi x hi c=> ?_⟩;rcases mJ hi with ⟨rfl,rfl⟩|⟨rfl,rfl⟩|⟨rfl,rfl⟩
 ·exact lM h hi (t:=leaf true) rfl trivial c
 ·exact lM h hi (t:=tv 0) rfl (p5 (by decide)) c
 ·exact lM h hi (t:=leaf true) rfl trivial c
theorem sg3:Sg sp3 sf3:=by
 have h:=EQ yJ (by decide) (by decide);refine ⟨yJ,h,λi x hi c=> ?_⟩;rcases mJ hi with ⟨rfl,rfl⟩|⟨rfl,rfl⟩|⟨rfl,rfl⟩
 ·exact lM h hi (t:=tv 0) rfl (p5 (by decide)) c
 ·exact lM h hi (t:=leaf true) rfl trivial c
 ·exact lM h hi (t:=leaf true) rfl trivial c
section
variable {c:Cf} {st:Bool}
theorem PD:(aF (sgG sp1) 0).ev c=true:=sg1.ev 0 _ rfl c
theorem PE:(aF (sgG sp1) 1).ev c=c 0:=(sg1.ev 1 _ rfl c).trans (io 0 c)
theorem Ho:(aF (sgG sp1) 2).ev c=c 1:=(sg1.ev 2 _ rfl c).trans (io 1 c)
theorem q0 {n:Int} (d:Der sp1 (aF (sgG sp1)) st c n):c 0=true:=by
 induction d with
 |mk i x hi hp ht hd ih=>
  rcases mJ hi with ⟨rfl,rfl⟩|⟨rfl,rfl⟩|⟨rfl,rfl⟩
  ·exact ih ⟨false,1⟩ (by decide) rfl
  ·rw [PE] at hp;exact hp
  ·exact ih ⟨false,1⟩ (by decide) rfl
theorem jw (h:c 0=true):Der sp1 (aF (sgG sp1)) true c 1:=.mk 1 (mkC ⟨#[116]⟩ 1 [] (dia (tv 0))) rfl (by rw [PE];exact h) (λ_ h=>(by cases h)) λ_ h=>by cases h
theorem Hp (h:c 0=true):Der sp1 (aF (sgG sp1)) false c 0:=.mk 0 (mkC ⟨#[115]⟩ 0 [⟨true,0⟩,⟨false,1⟩] aK) rfl PD (λ_ _ _=>rfl) λs hs ht=>by
 rcases Sw.1 hs with rfl|hs
 ·cases ht
 ·rw [SA.1 hs];exact (jw h).up
theorem Hq:¬Der sp1 (aF (sgG sp1)) true c 0:=by
 rw [Der.inv];rintro ⟨i,x,hi,hl,hp,ht,hd⟩;rcases mJ hi with ⟨rfl,rfl⟩|⟨rfl,rfl⟩|⟨rfl,rfl⟩
 ·exact absurd (ht ⟨true,0⟩ (by decide) rfl) (by decide)
 ·exact absurd hl (by decide)
 ·exact absurd hl (by decide)
theorem LJ:Fst sp1 (aF (sgG sp1)) c 1 1↔c 0=true/\c 1=true:=by
 constructor
 ·intro f;refine ⟨q0 f.der,?_⟩;obtain ⟨i,x,hi,hl,hp,hr⟩:=f.pres;rcases mJ hi with ⟨rfl,rfl⟩|⟨rfl,rfl⟩|⟨rfl,rfl⟩
  ·exact absurd hl (by decide)
  ·exact absurd rfl hr
  ·rw [Ho] at hp;exact hp
 ·rintro ⟨h0,h1⟩;refine .tok 2 0 (mkC ⟨#[117]⟩ 1 [⟨true,1⟩,⟨false,1⟩] (dia (tv 1))) ⟨true,1⟩ rfl (by rw [Ho];exact h1) (λy hy hyt=> ?_) rfl (λm y hm=>by omega) rfl;rcases Sw.1 hy with rfl|hy
  ·cases hyt
  ·rw [SA.1 hy];exact (jw h0).up
theorem LL:Use sp1 (aF (sgG sp1)) (leaf true) 0 c 2↔c 0=true/\c 1=true:=by
 constructor
 ·rintro ⟨x,hi,hp,_,hd⟩;cases hi;rw [Ho] at hp;exact ⟨q0 (hd ⟨false,1⟩ (by decide) rfl),hp⟩
 ·rintro ⟨h0,h1⟩;have hd:∀y∈([⟨true,0⟩,⟨false,1⟩]:List Sy),y.t=false->Der sp1 (aF (sgG sp1)) false c y.i:=λy hy hyt=>by
   rcases Sw.1 hy with rfl|hy
   ·cases hyt
   ·rw [SA.1 hy];exact (jw h0).up
  refine ⟨_,rfl,by rw [Ho];exact h1,?_,λy hy hyt=> ?_⟩
  ·exact .step 0 (mkC ⟨#[115]⟩ 0 [⟨true,0⟩,⟨false,1⟩] aK) ⟨false,1⟩ rfl PD (.start rfl) hd (by decide) rfl
  ·rcases Sw.1 hy with rfl|hy
   ·cases hyt
   ·rw [SA.1 hy];exact (jw h0).up
theorem LM {a b:Int}:¬Stp sp1 (aF (sgG sp1)) c a b:=by
 rintro ⟨i,j,x,s,hi,hj,hs,_,_,_,ho⟩;rcases mJ hi with ⟨rfl,rfl⟩|⟨rfl,rfl⟩|⟨rfl,rfl⟩
 ·match j,hj with
  |0,hj=>cases hj;cases hs
  |j+1,_=>exact absurd (ho 0 ⟨true,0⟩ (by omega) rfl).1 (by decide)
 ·simp [mkC] at hj
 ·match j,hj with
  |0,hj=>cases hj;cases hs
  |j+1,_=>exact absurd (ho 0 ⟨true,1⟩ (by omega) rfl).1 (by decide)
theorem PF:(aF (sgG sp2) 1).ev c=c 0:=(sg2.ev 1 _ rfl c).trans (io 0 c)
theorem RT:(aF (sgG sp2) 0).ev c=true:=sg2.ev 0 _ rfl c
theorem sW {r:Sy} {m:Nat} {y:Sy} {p:Prop} (hm:m≠0) (hy:[r][m]? =some y):p:=by
 match m,hm,hy with
 |0,hm,_=>exact absurd rfl hm
 |m+1,_,hy=>simp at hy
theorem yK {a b:Int} (h:Stp sp2 (aF (sgG sp2)) c a b):(a=0/\b=1)\/(a=1/\b=0/\c 0=true):=by
 obtain ⟨i,j,x,s,hi,hj,hs,ha,hb,hp,ho⟩:=h;rcases mJ hi with ⟨rfl,rfl⟩|⟨rfl,rfl⟩|⟨rfl,rfl⟩
 ·match j,hj with
  |0,hj=>cases hj;exact .inl ⟨ha.symm,hb.symm⟩
  |j+1,hj=>simp [mkC] at hj
 ·match j,hj with
  |0,hj=>cases hj;rw [PF] at hp;exact .inr ⟨ha.symm,hb.symm,hp⟩
  |j+1,hj=>simp [mkC] at hj
 ·match j,hj with
  |0,hj=>cases hj;cases hs
  |j+1,hj=>simp [mkC] at hj
theorem ER:Stp sp2 (aF (sgG sp2)) c 0 1:=⟨0,0,_,⟨false,1⟩,rfl,rfl,rfl,rfl,rfl,RT,λ_ _ hm hy=>sW hm hy⟩
theorem AV (h:c 0=true):Stp sp2 (aF (sgG sp2)) c 1 0:=⟨1,0,_,⟨false,0⟩,rfl,rfl,rfl,rfl,rfl,by rw [PF];exact h,λ_ _ hm hy=>sW hm hy⟩
theorem yL {n:Int} (hn:n=0\/n=1):Tg (Stp sp2 (aF (sgG sp2)) c) n n↔c 0=true:=by
 constructor
 ·intro h;rcases hn with rfl|rfl
  ·generalize hb:(0:Int)=b at h;cases h with
   |one h=>
    subst hb;rcases yK h with ⟨_,h⟩|⟨_,_,h⟩
    ·exact absurd h (by decide)
    ·exact h
   |snoc _ h=>
    subst hb;rcases yK h with ⟨_,h⟩|⟨_,_,h⟩
    ·exact absurd h (by decide)
    ·exact h
  ·obtain ⟨d,h⟩:=h.head;rcases yK h with ⟨h,_⟩|⟨_,_,h⟩
   ·exact absurd h (by decide)
   ·exact h
 ·intro h;rcases hn with rfl|rfl
  ·exact .snoc (.one ER) (AV h)
  ·exact .snoc (.one (AV h)) ER
theorem PG:(aF (sgG sp3) 0).ev c=c 0:=(sg3.ev 0 _ rfl c).trans (io 0 c)
theorem RU:(aF (sgG sp3) 2).ev c=true:=sg3.ev 2 _ rfl c
theorem ES {n:Int} (d:Der sp3 (aF (sgG sp3)) true c n):n≠0:=by
 induction d with
 |mk i x hi hp ht hd ih=>
  rcases mJ hi with ⟨rfl,rfl⟩|⟨rfl,rfl⟩|⟨rfl,rfl⟩
  ·exact absurd rfl (ih ⟨false,0⟩ (by decide) rfl)
  ·exact absurd (ht ⟨true,0⟩ (by decide) rfl) (by decide)
  ·decide
theorem ET:Der sp3 (aF (sgG sp3)) true c 1:=.mk 2 (mkC ⟨#[117]⟩ 1 [] aK) rfl RU (λ_ h=>(by cases h)) λ_ h=>by cases h
theorem EU {a b:Int} (h:Stp sp3 (aF (sgG sp3)) c a b):a=0/\b=0/\c 0=true:=by
 obtain ⟨i,j,x,s,hi,hj,hs,ha,hb,hp,ho⟩:=h;rcases mJ hi with ⟨rfl,rfl⟩|⟨rfl,rfl⟩|⟨rfl,rfl⟩
 ·match j,hj with
  |0,hj=>exact absurd rfl (ES (ho 1 ⟨false,0⟩ (by decide) rfl).2)
  |1,hj=>cases hj;rw [PG] at hp;exact ⟨ha.symm,hb.symm,hp⟩
  |j+2,hj=>exact absurd rfl (ES (ho 1 ⟨false,0⟩ (by omega) rfl).2)
 ·match j,hj with
  |0,hj=>cases hj;cases hs
  |j+1,hj=>simp [mkC] at hj
 ·simp [mkC] at hj
theorem Hr:Tg (Stp sp3 (aF (sgG sp3)) c) 0 0↔c 0=true:=by
 constructor
 ·intro h;obtain ⟨d,h⟩:=h.head;exact (EU h).2.2
 ·intro h;refine .one ⟨0,1,_,⟨false,0⟩,rfl,rfl,rfl,rfl,rfl,by rw [PG];exact h,λm y hm hy=> ?_⟩
  match m,hm,hy with
  |0,_,hy=>cases hy;exact ⟨rfl,ET⟩
  |1,hm,_=>exact absurd rfl hm
  |2,_,hy=>cases hy;exact ⟨rfl,ET⟩
  |m+3,_,hy=>simp [mkC] at hy
theorem Ht:¬Tg (Stp sp3 (aF (sgG sp3)) c) 1 1:=λh=>by obtain ⟨d,h⟩:=h.head;exact absurd (EU h).1 (by decide)
end
theorem hY {k:Nat} {t u:Tr} (ht:Sx k t) (hu:u.ok) (h:∀c,t.ev c=true↔u.ev c=true):t=u:=
 dC ht.1 hu λc=>SG.2 (h c)
theorem sX {k:Nat} {t:Tr} (ht:Sx k t) (h:∀c,t.ev c≠true):t=leaf false:=hY ht trivial λc=>⟨λh'=>absurd h' (h c),λh'=>by cases h'⟩
noncomputable abbrev ra:Tr:=ap2 aV (tv 0) (tv 1)
theorem oW:Sx 2 ra:=(Sx.tv (by decide) (by decide)).ap2 (o:=aV) (Sx.tv (by decide) (by decide))
theorem AW (c:Cf):ra.ev c=true↔c 0=true/\c 1=true:=by rw [(aZ (p5 (by decide)) (p5 (by decide))).2,io,io];exact SX
end Go.Proofs.YtcemhghkipgdiaaGreatDoor

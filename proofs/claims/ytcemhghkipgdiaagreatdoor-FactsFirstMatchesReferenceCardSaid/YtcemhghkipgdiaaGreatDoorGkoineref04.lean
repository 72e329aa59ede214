/-
  What functions of the program do, in a clean form, each with the proof that its code does so. Printed by a program.
-/
import Derived.Test.YtcemhghkipgdiaaGreatDoorPhs
import Derived.Test.YtcemhghkipgdiaaGreatDoorTie
import Derived.Test.YtcemhghkipgdiaaGreatDoorCards
import Derived.LaidMore
import Derived.Lay
import Derived.SevenTiedAt
import Derived.Stop.Joined
set_option maxRecDepth 10000
open Option renaming some->Y3,none->Y5
open Go.Obj renaming cells->Y4
open Bool renaming false->Y6,true->Y8
open Go.Addr renaming add->Zb,mk->Zc
open Int renaming toNat->Zd,tmod->Zk
namespace Go.Proofs.YtcemhghkipgdiaaGreatDoor.Rx
open Go
def okV (T:Nat->Option SB):SV->ξ->Prop
 | .c v,x=>x=v| .any v,x=>x=v| .ad a,x=>x=.pointer (Y3 a)| .lit b,x=>x=.bool b| .vt w,x=>x=.tuple w| .und,x=>x=undef
 | .ref i,x=>∃b,T i=Y3 b/\x=b.v
 | .unk,_=>True
structure Rel (σ:Sy) (E:En):Prop where
 val:∀t,okV σ.T (σ.S t) (E t)
 top:∀j,σ.n<=j->σ.T j=Y5
def jy (T:Nat->Option SB):NV->ξ->Prop
 | .sv s,v=>okV T s v
 | .nb b,v=>v=b.v
theorem MQ {T:Nat->Option SB} {s:SV} {x v:ξ} (h:okV T s x) (hv:(s.vw T).val=Y3 v):x=v:=by
 cases s with
 |ref i=>obtain ⟨b,hb,rfl⟩:=h;simp only [SV.vw,hb] at hv;cases b<;>simp_all [SB.vw,VW.val,SB.v]
 |unk=>simp [SV.vw,VW.val] at hv
 |_=>simp_all [SV.vw,VW.val,okV]
section
variable {P:Program} {σ:Sy} {E:En} {F:PH} {x y:Operand} {o:Oper}
theorem OL {T:Nat->Option SB} (v:ξ):okV T (UF v) v:=by cases v<;>rfl
theorem ug (h:Rel σ E) (x:Operand):okV σ.T (σ.cp x) (ev E x):=by
 cases x with
 |tmp t=>exact h.val t
 |const v=>exact OL v
 |global g=>rfl
 |func f=>rfl
theorem bl (h:Rel σ E) {w:VW} {v:ξ} (hw:σ.ov x=w) (hv:w.val=Y3 v):ev E x=v:=MQ (ug h x) (by rw [<- hw] at hv;exact hv)
theorem ovc (h:Rel σ E) {v:ξ} (hw:σ.ov x=.c v):ev E x=v:=bl h hw rfl
theorem JT {i:Nat} {p:Θ} (hw:σ.ov x=.ptr i p):σ.T i=Y3 (.ptr p):=by
 unfold Sy.ov at hw;cases hs:σ.cp x<;>simp only [hs,SV.vw] at hw<;>try cases hw
 rename_i j;cases hb:σ.T j with
 |none=>simp [hb] at hw
 |some b=>cases b<;>simp only [hb,SB.vw] at hw<;>cases hw;exact hb
theorem GK {i t:Nat} {b:Bool} (hw:σ.vw t=.bool i b):σ.T i=Y3 (.bool b):=by
 unfold Sy.vw at hw;cases hs:σ.S t<;>simp only [hs,SV.vw] at hw<;>try cases hw
 rename_i j;cases hb:σ.T j with
 |none=>simp [hb] at hw
 |some b=>cases b<;>simp only [hb,SB.vw] at hw<;>cases hw;exact hb
theorem JU {i t:Nat} {p:Prop} {d:Decidable p} (hw:σ.vw t=.prp i p d):σ.T i=Y3 (.prp p d):=by
 unfold Sy.vw at hw;cases hs:σ.S t<;>simp only [hs,SV.vw] at hw<;>try cases hw
 rename_i j;cases hb:σ.T j with
 |none=>simp [hb] at hw
 |some b=>cases b<;>simp only [hb,SB.vw] at hw<;>cases hw;exact hb
theorem pP {α:Type} (f:Nat->α) (d:Nat) (v:α):up f d v d=v:=by simp [up]
theorem uh {α:Type} (f:Nat->α) {d t:Nat} (v:α) (h:¬t=d):up f d v t=f t:=by simp only [up,kR h];rfl
theorem Rel.put (h:Rel σ E) {d:Nat} {nv:NV} {v:ξ} (hv:jy σ.T nv v):Rel (σ.put d nv) (upd E d v):=by
 cases nv with
 |sv s=>
  refine ⟨λt=> ?_,h.top⟩;by_cases ht:t=d
  ·subst ht;show okV _ (up _ _ _ t) (upd E t v t);rw [pP,show upd E t v t=v by simp [upd]];exact hv
  ·show okV _ (up _ _ _ t) (upd E d v t);rw [uh _ _ ht];simp only [upd,kR ht];exact h.val t
 |nb b=>
  have key:∀s x,okV σ.T s x->okV (up σ.T σ.n (Y3 b)) s x:=by
   intro s x hs;cases s with
   |ref i=>obtain ⟨b',hb,hx⟩:=hs;refine ⟨b',?_,hx⟩;rw [uh _ _ (λe=> ?_)];exact hb;rw [e,h.top _ (W8 _)] at hb;cases hb
   |_=>exact hs
  refine ⟨λt=> ?_,λj hj=> ?_⟩
  ·by_cases ht:t=d
   ·subst ht;show okV _ (up _ _ _ t) (upd E t v t);rw [pP];exact ⟨b,pP ..,(show upd E t v t=v by simp [upd]).trans hv⟩
   ·show okV _ (up _ _ _ t) (upd E d v t);rw [uh _ _ ht];simp only [upd,kR ht];exact key _ _ (h.val t)
  ·have hj':σ.n+1<=j:=hj;show up σ.T σ.n (Y3 b) j=Y5;rw [uh _ _ (by omega)];exact h.top _ (by omega)
theorem Rel.putO (h:Rel σ E) {d:Option Tmp} {nv:NV} {v:ξ} (hv:jy σ.T nv v):Rel (σ.putO d nv) (cV E d v):=by
 cases d with
 |none=>exact h
 |some d=>exact h.put hv
theorem Rel.rf (h:Rel σ E) {i:Nat} {b0 b:SB} (hi:σ.T i=Y3 b0) (hv:b0.v=b.v):Rel (σ.rf i b) E:=by
 refine ⟨λt=> ?_,λj hj=> ?_⟩
 ·have:=h.val t;show okV (up σ.T i (Y3 b)) (σ.S t) (E t);cases hs:σ.S t with
  |ref j=>
   rw [hs] at this;obtain ⟨b',hb,hx⟩:=this;by_cases hji:j=i
   ·subst hji;rw [hi] at hb;cases hb;exact ⟨b,pP ..,hx.trans hv⟩
   ·exact ⟨b',by rw [uh _ _ hji];exact hb,hx⟩
  |_=>rw [hs] at this;exact this
 ·show up σ.T i (Y3 b) j=Y5;have:¬j=i:=λe=>by subst e;rw [h.top _ hj] at hi;cases hi
  rw [uh _ _ this];exact h.top _ hj
theorem rZ {T:Nat->Option SB} (k:Kd) (x:k.T):jy T (k.nv x) (k.v x):=by cases k<;>rfl
theorem GL {T:Nat->Option SB} (k:Kd) (v:ξ):jy T (ofk k v) v:=by cases k<;>first|rfl|(cases v<;>first|rfl|exact True.intro)
theorem kP {K:Sy->Addr->Prop} (h:sxA σ x K) (r:Rel σ E):∃σ' a,Rel σ' E/\ev E x=.pointer (Y3 a)/\K σ' a:=by
 unfold sxA at h;split at h
 ·rename_i a hw;exact ⟨σ,a,r,bl r hw rfl,h⟩
 ·rename_i i p hw;obtain ⟨a,rfl,h⟩:=h;exact ⟨σ.rf i (.ad a),a,r.rf (JT hw) rfl,bl r hw rfl,h⟩
 ·rename_i a hw;exact ⟨σ,a,r,bl r hw rfl,h⟩
 ·exact h.elim
theorem jV (r:Rel σ E):∀(l:List Operand) {K:Ξ->Prop},wR σ l K->∃us,l.map (ev E)=us/\K us
 |[],_,h=>⟨[],rfl,h⟩
 |x::l,K,h=>by
  unfold wR at h;split at h
  ·rename_i v hv;obtain ⟨us,h1,h2⟩:=jV r l h;exact ⟨v::us,by rw [Xw,h1,bl r rfl hv],h2⟩
  ·exact h.elim
def Aj (P:Program) (E:En) (F:PH) (o:Oper) (K:RK):Prop:=
 ∃σ nv ck v,RD P E F o v/\Rel σ E/\jy σ.T nv v/\(match ck with|none=>∀F,RD P E F o v|some c=>c F/\∀F':PH,c F'->RD P E F' o v)/\K σ nv ck
theorem Aj.pure {K:RK} {nv:NV} {v:ξ} (hy:∀F,RD P E F o v) (r:Rel σ E) (h:K σ nv Y5) (hv:jy σ.T nv v):Aj P E F o K:=⟨σ,nv,Y5,v,hy F,r,hv,hy,h⟩
theorem Aj.chk {K:RK} {nv:NV} {v:ξ} {c:Ψ} (hc:c F) (hy:∀F',c F'->RD P E F' o v) (r:Rel σ E) (h:K σ nv (Y3 c)) (hv:jy σ.T nv v):Aj P E F o K:=⟨σ,nv,Y3 c,v,hy F hc,r,hv,⟨hc,hy⟩,h⟩
def Eb (P:Program) (E:En) (o:Oper) (K:NV->Prop):Prop:=∃nv v,(∀F,RD P E F o v)/\(∀T,jy T nv v)/\K nv
theorem Eb.mk {K:NV->Prop} {nv:NV} {v:ξ} (hy:∀F,RD P E F o v) (h:K nv) (hv:∀T,jy T nv v:=by exact λ_=>rfl):Eb P E o K:=⟨nv,v,hy,hv,h⟩
theorem OM {op:BinOp} {k:IntKind} {a b:Int} {t t':TypeId} {lit:Bool} {K:NV->Prop} (h:sxI op k a b lit K) (ho:o.op=.binOp op t x y t') (hx:ev E x=.int k a) (hy:ev E y=.int k b):Eb P E o K:=by
 cases op<;>simp only [sxI] at h
 case add=>exact .mk (λF=>Ud ho hx hy) h
 case sub=>exact .mk (λF=>Ue ho hx hy) h
 case mul=>exact .mk (λF=>Uf ho hx hy) h
 case quo=>
  cases lit
  ·exact .mk (λF=>NC ho hx hy h.1) h.2
  ·simp only at h;split at h
   ·rename_i hb;exact .mk (λF=>NC ho hx hy (ε hb)) h
   ·exact h.elim
 case rem=>
  cases lit
  ·exact .mk (λF=>ND ho hx hy h.1) h.2
  ·simp only at h;split at h
   ·rename_i hb;exact .mk (λF=>ND ho hx hy (ε hb)) h
   ·exact h.elim
 case and=>exact .mk (λF=>Ug ho hx hy) h
 case or=>exact .mk (λF=>Wz ho hx hy) h
 case xor=>exact .mk (λF=>Uh ho hx hy) h
 case andNot=>exact .mk (λF=>Hr ho hx hy) h
 case lss=>exact .mk (λF=>Ui ho hx hy) h
 case leq=>exact .mk (λF=>Uj ho hx hy) h
 case gtr=>exact .mk (λF=>Uk ho hx hy) h
 case geq=>exact .mk (λF=>Ul ho hx hy) h
 case eql=>exact .mk (λF=>Um ho hx hy) h
 case neq=>exact .mk (v:=.bool (decide (a≠b))) (λF=>by
  have:=Un (P:=P) (F:=F) ho hx hy;rw [show (a !=b)=decide (a≠b) by rw [Xc];simp] at this
  exact this) h
theorem ON {op:BinOp} {k k':IntKind} {a b:Int} {t t':TypeId} {lit:Bool} {K:NV->Prop} (h:sxH op k a b lit K) (ho:o.op=.binOp op t x y t') (hx:ev E x=.int k a) (hy:ev E y=.int k' b):Eb P E o K:=by
 cases op<;>simp only [sxH] at h
 case shl=>
  cases lit
  ·exact .mk (λF=>NE ho hx hy h.1) h.2
  ·simp only at h;split at h
   ·rename_i hb;exact .mk (λF=>NE ho hx hy (ε hb)) h
   ·exact h.elim
 case shr=>
  cases lit
  ·exact .mk (λF=>NF ho hx hy h.1) h.2
  ·simp only at h;split at h
   ·rename_i hb;exact .mk (λF=>NF ho hx hy (ε hb)) h
   ·exact h.elim
theorem wz {w:VW} {b:Bool} (h:w.tv=Y3 b):w.val=Y3 (.bool b):=by cases w<;>simp [VW.tv] at h<;>subst h<;>rfl
theorem GM {op:BinOp} {t t':TypeId} {K:NV->Prop} (h:HT P σ op t x y K) (r:Rel σ E) (ho:o.op=.binOp op t x y t'):Eb P E o K:=by
 unfold HT at h;split at h
 ·rename_i k a k' b hx hy;split at h
  ·exact ON h ho (ovc r hx) (ovc r hy)
  ·split at h
   ·rename_i hk;obtain rfl:=ε hk;exact OM h ho (ovc r hx) (ovc r hy)
   ·exact h.elim
 ·rename_i c d hx hy;split at h
  ·exact .mk (λF=>Ph ho (ovc r hx) (ovc r hy) h.1) h.2
  ·exact .mk (λF=>Pj ho (ovc r hx) (ovc r hy)) h
  ·exact .mk (λF=>Pk ho (ovc r hx) (ovc r hy)) h
  ·exact .mk (λF=>O6 ho (ovc r hx) (ovc r hy)) h
  ·exact .mk (λF=>O7 ho (ovc r hx) (ovc r hy)) h
  ·exact h.elim
 ·rename_i a hx hy;split at h
  ·rename_i ht;exact .mk (λF=>yj ho (bl r hx rfl) (ovc r hy) ht) h
  ·rename_i ht;exact .mk (λF=>yk ho (bl r hx rfl) (ovc r hy) ht) h
  ·exact h.elim
 ·rename_i i p hx hy;split at h
  ·rename_i ht;exact .mk (λF=>yj ho (bl r hx rfl) (ovc r hy) ht) h
  ·rename_i ht;exact .mk (λF=>yk ho (bl r hx rfl) (ovc r hy) ht) h
  ·exact h.elim
 ·rename_i b l c hx hy;split at h
  ·rename_i ht;exact .mk (λF=>AB (s:=⟨b,l,c⟩) ho (ovc r hx) (ovc r hy) ht) h
  ·rename_i ht;exact .mk (λF=>AC (s:=⟨b,l,c⟩) ho (ovc r hx) (ovc r hy) ht) h
  ·exact h.elim
 ·rename_i c d hx hy;split at h
  ·rename_i ht;obtain ⟨v,h1,h2⟩:=h;exact .mk (λF=>Kx ho (ovc r hx) (ovc r hy) ht (h1 F)) h2
  ·rename_i ht;obtain ⟨v,h1,h2⟩:=h;exact .mk (λF=>Ky ho (ovc r hx) (ovc r hy) ht (h1 F)) h2
  ·exact h.elim
 ·split at h
  ·rename_i a b ht ha hb;split at h
   ·exact .mk (λF=>O4 ho (bl r rfl (wz ha)) (bl r rfl (wz hb)) ht) h
   ·exact .mk (λF=>O5 ho (bl r rfl (wz ha)) (bl r rfl (wz hb)) ht) h
   ·exact h.elim
  ·exact h.elim
end
section
variable {P:Program} {σ:Sy} {E:En} {F:PH} {x y:Operand} {o:Oper}
theorem S5 {α β:Type} {f:α->β} {l:List α} {a b:β} (h:l.map f=[a,b]):∃x y,l=[x,y]/\f x=a/\f y=b:=by
 rcases l with _|⟨x,_|⟨y,_|⟨z,l⟩⟩⟩<;>simp at h
 exact ⟨x,y,rfl,h⟩
theorem S8 {α β:Type} {f:α->β} {l:List α} {a b c:β} (h:l.map f=[a,b,c]):∃x y z,l=[x,y,z]/\f x=a/\f y=b/\f z=c:=by
 rcases l with _|⟨x,_|⟨y,_|⟨z,_|⟨u,l⟩⟩⟩⟩<;>simp at h
 exact ⟨x,y,z,rfl,h⟩
theorem eN {b:Bool} {K:Prop} (h:okN b K):b=Y8/\K:=by cases b;exact h.elim;exact ⟨rfl,h⟩
theorem wA {d:TypeDesc} (h:kdD d=.agg):kS d=Y8:=by cases d<;>simp [kdD] at h<;>rfl
theorem pQ {d:TypeDesc} (h:kdD d≠.agg):kS d=Y6:=by cases d<;>first|rfl|exact absurd rfl h
theorem JV {t:TypeId} {a:Addr} {K:NV->(Ψ)->Prop} (h:Pm P t a F K) (_:Rel σ E) (ho:o.op=.load t x) (hx:ev E x=.pointer (Y3 a)):
  ∃nv v c,c F/\(∀F':PH,c F'->RD P E F' o v)/\(∀T,jy T nv v)/\K nv c:=by
 unfold Pm at h;split at h
 ·exact h.elim
 ·rename_i d hd;split at h
  ·rename_i hk;split at h
   ·rename_i n b hz;obtain ⟨v,rfl,hr,h⟩:=h;exact ⟨.sv (.c (.agg v)),.agg v,λF=>F.row a v,hr,λF' hr=>Kq ho hx hd (wA hk) hz hr,λ_=>rfl,h⟩
   ·exact h.elim
  ·rename_i hk;obtain ⟨v,hc,h⟩:=h;exact ⟨_,_,_,hc,λF' hc=>Kp ho hx hd (pQ hk) hc,λ_=>rZ _ v,h⟩
theorem iL {y:Option Operand} {dflt:Nat} {K:Nat->Prop} (h:wT σ y dflt K) (r:Rel σ E):∃l,dL (y.map (ev E)) dflt l/\K l:=by
 unfold wT at h;split at h
 ·exact ⟨dflt,wJ,h⟩
 ·rename_i y;split at h
  ·rename_i k i hw;split at h
   ·split at h
    ·rename_i hi;exact ⟨_,NI (ovc r hw) (ε hi),h⟩
    ·exact h.elim
   ·exact ⟨_,NI (ovc r hw) h.1,h.2⟩
  ·exact h.elim
theorem r4 {place:Nat->Option (Nat×Nat)} {n:Nat} (r:Rel σ E):∀(l:List (Nat×Operand)) (cs:Γ) {K:Γ->Prop},cs.size=n->bld σ place n l cs K->
  ∃res,Instr.fill place cs (l.map λp=>(p.1,ev E p.2))=Y3 res/\K res
 |[],cs,K,_,h=>⟨cs,rfl,h⟩
 | (i,x)::l,cs,K,hn,h=>by
  unfold bld at h;split at h
  ·exact h.elim
  ·rename_i off s hp;have one:∀{v:ξ},ev E x=v->v.cells= #[v]->Nat.beq s 1=Y8->Nat.blt off n=Y8->bld σ place n l (cs.setIfInBounds off v) K->
     ∃res,Instr.fill place cs (((i,x)::l).map λp=>(p.1,ev E p.2))=Y3 res/\K res:=by
    clear h;intro v hx hc hs ho h;obtain rfl:=Yj hs;obtain ⟨res,h1,h2⟩:=r4 r l _ (by simpa using hn) h;refine ⟨res,?_,h2⟩;rw [Xw];show Instr.fill place cs ((i,ev E x)::_)=_;rw [hx];exact NG hp hc (by rw [hn];exact ho) h1
   split at h
   ·rename_i c hw;split at h
    ·rename_i ho;obtain ⟨hs,h⟩:=h;obtain ⟨res,h1,h2⟩:=r4 r l _ (by rw [d7];exact hn) h;refine ⟨res,?_,h2⟩;rw [Xw];show Instr.fill place cs ((i,ev E x)::_)=_;rw [ovc r hw];exact NH hp hs (by rw [hn];exact ho) h1
    ·exact h.elim
   ·rename_i v hna hw;split at h
    ·rename_i h1 h2;exact one (ovc r hw) (by cases v<;>first|rfl|exact absurd rfl (hna _)) h1 h2 h
    ·exact h.elim
   ·exact h.elim
   ·rename_i w hna hnc hnn;split at h
    ·rename_i v h1 h2 hv;refine one (bl r rfl hv) ?_ h1 h2 h;cases hw:σ.ov x<;>rw [hw] at hv<;>simp only [VW.val] at hv<;>first|(cases hv;done)|(cases hv;rfl)|(exact absurd hw (hna _))|(exact absurd hw (hnc _))|exact absurd hw (hnn _)
    ·exact h.elim
variable {K:RK}
theorem Aj.of (r:Rel σ E) (h:Eb P E o λv=>K σ v Y5):Aj P E F o K:=by obtain ⟨nv,v,h1,h2,h3⟩:=h;exact .pure h1 r h3 (h2 _)
theorem GN (h:sxR P σ o F K) (r:Rel σ E):Aj P E F o K:=by
 cases ho:o.op<;>simp only [sxR,ho] at h<;>try exact h.elim
 case move x=>exact .pure (λF=>O3 ho rfl) r h (ug r x)
 case assign x=>exact .pure (λF=>Hq ho rfl) r h (ug r x)
 case pick c a b=>
  split at h
  ·rename_i hc;exact .pure (λF=>wG ho (bl r hc rfl) (λ_=>rfl) (λh=>by cases h)) r h (ug r a)
  ·rename_i hc;exact .pure (λF=>wG ho (bl r hc rfl) (λh=>by cases h) (λ_=>rfl)) r h (ug r b)
  ·exact h.elim
 case nilCheck x=>
  split at h
  ·rename_i hw;refine .pure (λF=>yi ho (ovc r hw)) r h ?_;show okV _ _ _;rw [<- ovc r hw];exact ug r x
  ·obtain ⟨σ',a,r',hx,h⟩:=kP h r;exact .pure (λF=>Az ho hx) r' h rfl
 case extract x i=>
  split at h
  ·rename_i vs hw;split at h
   ·rename_i v hv;exact .pure (λF=>ut ho (ovc r hw) hv) r h (GL _ v)
   ·exact h.elim
  ·rename_i w hw;obtain ⟨v,hv,h⟩:=h;exact .pure (λF=>ut ho (bl r hw rfl) hv) r h (rZ _ v)
  ·exact h.elim
 case fieldAddr t x i=>
  split at h
  ·rename_i fs ht;split at h
   ·rename_i f hf;split at h
    ·rename_i s b hz;obtain ⟨σ',a,r',hx,h⟩:=kP h r;exact .pure (λF=>yl ho hx ht hf hz (by omega)) r' h rfl
    ·exact h.elim
   ·exact h.elim
  ·exact h.elim
 case load t x=>
  obtain ⟨σ',a,r',hx,h⟩:=kP h r;obtain ⟨nv,v,c,h1,h2,h3,h⟩:=JV h r' ho hx;exact .chk h1 h2 r' h (h3 _)
 case indexAddr t x y=>
  split at h
  ·rename_i k i e hy ht;split at h
   ·rename_i YZ len cap s b hx hz;obtain ⟨a,rfl,h1,h2,h⟩:=h;exact .pure (λF=>tA ho (ovc r hx) (ovc r hy) ht hz h1 (by exact_mod_cast h2)) r h rfl
   ·exact h.elim
  ·rename_i k i n e hy ht;split at h
   ·rename_i s b hz;obtain ⟨σ',a,r',hx,h1,h2,h⟩:=kP h r;exact .pure (λF=>tB ho hx (ovc r hy) ht hz h1 (by exact_mod_cast h2)) r' h rfl
   ·exact h.elim
  ·exact h.elim
 case index t x y=>
  split at h
  ·rename_i s k i hx hy ht;obtain ⟨h1,h2,h3,v,rfl,h⟩:=h;exact .pure (λF=>AD ho (ovc r hx) (ovc r hy) ht h1 (by exact_mod_cast h2)) r h rfl
  ·rename_i cs k i n e hx hy ht;split at h
   ·rename_i d s b hd hz;split at h
    ·exact h.elim
    ·rename_i hk;obtain ⟨h1,h2,v,hv,h⟩:=h;exact .pure (λF=>ym ho (ovc r hx) (ovc r hy) ht hz hd (pQ hk) h1 (by exact_mod_cast h2) hv) r h (rZ _ v)
   ·exact h.elim
  ·exact h.elim
 case field t x i=>
  split at h
  ·rename_i cs fs hx ht;split at h
   ·rename_i f hf;split at h
    ·rename_i d s b hd hz;split at h
     ·rename_i hk;exact .pure (λF=>Hw ho (ovc r hx) ht hf hd (wA hk) hz) r h rfl
     ·rename_i hk;obtain ⟨v,hv,h⟩:=h;exact .pure (λF=>Hv ho (ovc r hx) ht hf hd (pQ hk) hv) r h (rZ _ v)
    ·exact h.elim
   ·exact h.elim
  ·exact h.elim
 case binOp op t x y t'=>exact .of r (GM h r ho)
 case unOp op t x=>
  split at h
  ·rename_i b hx;exact .pure (λF=>Ht ho (bl r hx rfl)) r h rfl
  ·rename_i i b hx;exact .pure (λF=>Ht ho (bl r hx rfl)) r h rfl
  ·rename_i i p d hx;refine .pure (v:=.bool (@decide (¬p) (@instDecidableNot p d))) (λF=> ?_) r h rfl;have:=Ht (P:=P) (F:=F) ho (bl r hx rfl);rw [show (!@decide p d)= @decide (¬p) (@instDecidableNot p d) by cases d<;>rfl] at this;exact this
  ·rename_i k a hx;exact .pure (λF=>Uo ho (ovc r hx)) r h rfl
  ·exact h.elim
 case convert t t' x=>
  split at h
  ·rename_i k a d k' hx ht ht';exact .pure (λF=>Eg ho (ovc r hx) ht ht') r h rfl
  ·rename_i b l c e hx ht ht';split at h
   ·rename_i he;obtain ⟨s,hs,h⟩:=h;exact .chk hs (λF' hs=>HR ho (ovc r hx) ht ht' he ⟨_,_,_,rfl⟩ hs) r h rfl
   ·exact h.elim
  ·exact h.elim
 case slice t x lo hi mx=>
  split at h
  ·rename_i e ht;split at h
   ·rename_i b len cap sz z hx hz;obtain ⟨l,hl,h⟩:=iL h r;obtain ⟨u,hu,h1,h2,h⟩:=iL h r;exact .pure (λF=>Ei (s:=⟨b,len,cap⟩) ho (ovc r hx) ht hz hl hu h1 h2) r h rfl
   ·exact h.elim
  ·rename_i ht;split at h
   ·rename_i s hx;obtain ⟨l,hl,h⟩:=iL h r;obtain ⟨u,hu,h1,h2,h⟩:=iL h r;exact .pure (λF=>AH ho (ovc r hx) ht hl hu h1 h2) r h rfl
   ·exact h.elim
  ·rename_i n e ht;split at h
   ·rename_i sz z hz;obtain ⟨σ',a,r',hx,h⟩:=kP h r;exact .pure (λF=>ux ho hx ht hz wJ wJ (Yz _) (W8 _)) r' h rfl
   ·rename_i sz z hz hnn;obtain ⟨σ',a,r',hx,h⟩:=kP h r;obtain ⟨l,hl,h⟩:=iL h r';obtain ⟨u,hu,h1,h2,h⟩:=iL h r';exact .pure (λF=>ux ho hx ht hz hl hu h1 h2) r' h rfl
   ·exact h.elim
  ·rename_i e m ht;split at h
   ·rename_i b len cap sz z k i k' m' hx hz hhi hm;obtain ⟨l,hl,h0,hm0,h1,h2,h3,h⟩:=iL h r;cases hi with
    |none=>simp at hhi
    |some hi=>simp only [XT,Option.some.injEq] at hhi;exact .pure (λF=>AG (s:=⟨b,len,cap⟩) ho (ovc r hx) ht hz hl (ovc r hhi) (ovc r hm) h0 hm0 h1 h2 h3) r h rfl
   ·exact h.elim
  ·exact h.elim
 case build t parts=>
  split at h
  ·rename_i fs z ht hz;obtain ⟨hk,h⟩:=eN h;obtain ⟨res,h1,h⟩:=r4 r _ _ rfl h;exact .pure (λF=>tC ho ht hz hk (by simp) h1) r h rfl
  ·rename_i n e z ht hz;split at h
   ·rename_i s b hs;obtain ⟨res,h1,h⟩:=r4 r _ _ rfl h;exact .pure (λF=>wH ho ht hz hs (by simp) h1) r h rfl
   ·exact h.elim
  ·exact h.elim
 case makeFunc fn first cap=>
  cases fn<;>simp only at h<;>try exact h.elim
  obtain ⟨us,h1,h⟩:=jV r _ h;obtain ⟨vs,h2,h⟩:=jV r _ h;have h1':first.map (ev E)=us.toArray:=by rw [<- h1,<- Array.toList_map,Array.toArray_toList]
  have h2':cap.map (ev E)=vs.toArray:=by rw [<- h2,<- Array.toList_map,Array.toArray_toList]
  exact .pure (λF=>AA ho h1' h2') r h rfl
 case lookup t x y ok=>
  split at h
  ·rename_i u v kt e hu hv ht;split at h
   ·obtain ⟨q,b,h1,h⟩:=h;exact .chk h1 (λF' h1=>yp ho (bl r rfl hu) (bl r rfl hv) h1) r h rfl
   ·obtain ⟨q,h1,h⟩:=h;exact .chk h1 (λF' h1=>yp ho (bl r rfl hu) (bl r rfl hv) h1) r h (rZ _ q)
  ·exact h.elim
 case entry x=>
  split at h
  ·rename_i u hu;obtain ⟨w,h1,h⟩:=h;exact .chk h1 (λF' h1=>Kz ho (bl r rfl hu) h1) r h rfl
  ·exact h.elim
 case call c=>
  obtain ⟨cal,args,ts⟩:=c;obtain ⟨args⟩:=args;obtain ⟨ts⟩:=ts;cases cal<;>simp only at h<;>try exact h.elim
  rename_i b;split at h
  ·rename_i bs l cp t heq;obtain ⟨x,rfl,hx⟩:=Yi.1 heq;split at h
   ·rename_i ht;exact .pure (λF=>Kn (s:=⟨bs,l,cp⟩) ho (ovc r hx) ht) r h rfl
   ·exact h.elim
  ·rename_i s t heq;obtain ⟨x,rfl,hx⟩:=Yi.1 heq;split at h
   ·rename_i ht;exact .pure (λF=>Hu ho (ovc r hx) ht) r h rfl
   ·exact h.elim
  ·rename_i m t heq;obtain ⟨x,rfl,hx⟩:=Yi.1 heq;obtain ⟨v,h1,h⟩:=h;exact .chk h1 (λF' h1=>HS ho (ovc r hx) h1) r h rfl
  ·rename_i bs l cp t heq;obtain ⟨x,rfl,hx⟩:=Yi.1 heq;split at h
   ·rename_i ht;exact .pure (λF=>Ko (s:=⟨bs,l,cp⟩) ho (ovc r hx) ht) r h rfl
   ·exact h.elim
  ·rename_i k a k' b' heq;obtain ⟨x,y,rfl,hx,hy⟩:=S5 heq;obtain ⟨hk,h'⟩:=eN h;obtain rfl:=ε hk;exact .pure (λF=>O8 ho (ovc r hx) (ovc r hy)) r h' rfl
  ·rename_i k a k' b' heq;obtain ⟨x,y,rfl,hx,hy⟩:=S5 heq;obtain ⟨hk,h'⟩:=eN h;obtain rfl:=ε hk;exact .pure (λF=>O9 ho (ovc r hx) (ovc r hy)) r h' rfl
  ·rename_i k a k' b' k'' c' heq;obtain ⟨x,y,z,rfl,hx,hy,hz⟩:=S8 heq;obtain ⟨hk,h'⟩:=eN h;obtain ⟨rfl,rfl⟩:=ε hk;exact .pure (λF=>Pa ho (ovc r hx) (ovc r hy) (ovc r hz)) r h' rfl
  ·rename_i k a k' b' k'' c' heq;obtain ⟨x,y,z,rfl,hx,hy,hz⟩:=S8 heq;obtain ⟨hk,h'⟩:=eN h;obtain ⟨rfl,rfl⟩:=ε hk;exact .pure (λF=>Pb ho (ovc r hx) (ovc r hy) (ovc r hz)) r h' rfl
  ·exact h.elim
end
theorem OO {F:PH} {b:Nat} {o:Obj} (hb:F b=Y5):F.le (F.set b o):=λx u hx=>by
 have:x≠b:=λe=>by rw [e,hb] at hx;cases hx
 rw [AJ _ _ this];exact hx
section
variable {P:Program} {σ:Sy} {E:En} {F:PH} {x y z:Operand} {o:Oper}
def KK (F:PH) (E:En) (o:Oper) (K:EK) (E':En) (F':PH):Prop:=∃fl σ',(fl=Y8->F.le F')/\Rel σ' E'/\(∀t,o.dst≠Y3 t->E' t=E t)/\K fl σ' F'
def OP (P:Program) (E:En) (F:PH) (o:Oper) (K:EK):Prop:=aF P (execOp (ev E) o) F (bL P (KK F E o K) o E)
theorem pR {d:Option Tmp} {v:ξ} {t:Nat} (h:d≠Y3 t):cV E d v t=E t:=by
 cases d with
 |none=>rfl
 |some d=>simp only [cV,upd,kR (λe:t=d=>h (by rw [e]))];rfl
variable {K:EK}
theorem KK.mk {nv:NV} {v:ξ} {F':PH} {fl:Bool} (r:Rel σ E) (h:K fl (σ.putO o.dst nv) F') (hv:jy σ.T nv v) (hl:fl=Y8->F.le F'):KK F E o K (cV E o.dst v) F':=
 ⟨fl,_,hl,r.putO hv,λ_ ht=>pR ht,h⟩
theorem KK.f {nv:NV} {v:ξ} {F':PH} (r:Rel σ E) (h:K Y6 (σ.putO o.dst nv) F') (hv:jy σ.T nv v):KK F E o K (cV E o.dst v) F':=KK.mk r h hv (λh=>by cases h)
theorem iM {ob:Obj} {s:Nat->SV} {v:Nat->ξ} (h:sxN σ o.dst ob s F K) (r:Rel σ E) (hv:∀b,okV σ.T (s b) (v b)):∀b,F b=Y5->KK F E o K (cV E o.dst (v b)) (F.set b ob):=
 λb hb=>KK.mk r (atE (h b hb)) (hv b) (λ_=>OO hb)
theorem JW {d:Option Tmp} {t:TypeId} {v:ξ} {K:Sy->Prop} (h:yv P σ d t v K) (r:Rel σ E):∃σ',Rel σ' (cV E d v)/\K σ':=by
 unfold yv at h;split at h
 ·exact ⟨σ,r,h⟩
 ·rename_i d;split at h
  ·split at h
   ·obtain ⟨rfl,h⟩:=h;exact ⟨_,r.put (show jy σ.T (.sv (.c (.tuple _))) _ from rfl),h⟩
   ·obtain ⟨a,rfl,h⟩:=h;exact ⟨_,r.put (show jy σ.T (.sv (.c (.tuple _))) _ from rfl),h⟩
   ·obtain ⟨a,b,rfl,h⟩:=h;exact ⟨_,r.put (show jy σ.T (.sv (.c (.tuple _))) _ from rfl),h⟩
   ·obtain ⟨a,b,c,rfl,h⟩:=h;exact ⟨_,r.put (show jy σ.T (.sv (.c (.tuple _))) _ from rfl),h⟩
   ·obtain ⟨a,b,c,e,rfl,h⟩:=h;exact ⟨_,r.put (show jy σ.T (.sv (.c (.tuple _))) _ from rfl),h⟩
   ·exact h.elim
  ·obtain ⟨a,rfl,h⟩:=h;exact ⟨_,r.put (rZ _ a),h⟩
theorem Ak {t:TypeId} {v:ξ} {F':PH} (h:yv P σ o.dst t v λσ=>K Y6 σ F') (r:Rel σ E):KK F E o K (cV E o.dst v) F':=by obtain ⟨σ',r',h⟩:=JW h r;exact ⟨Y6,σ',(λh=>by cases h),r',λ_ ht=>pR ht,h⟩
theorem pS {w:VW} {v:ξ} (hv:w.val=Y3 v) (h1:∀c,w≠.c (.agg c)) (h2:∀u,w≠.any u):v.cells= #[v]:=by
 cases w<;>simp only [VW.val] at hv<;>first|(cases hv;done)|(cases hv;rfl)|exact absurd rfl (h2 _)|skip
 rename_i u;cases hv;cases v<;>first|rfl|exact absurd rfl (h1 _)
theorem GO {w:VW} {v:ξ} (hv:w.val=Y3 v) (h1:∀c,w≠.c (.agg c)) (h2:∀u,w≠.any u) (h3:∀u,w≠.c (.tuple u)) (h4:∀u,w≠.vt u) (h5:w≠.und):ak v:=by
 cases w<;>simp only [VW.val] at hv<;>first|(cases hv;done)|exact absurd rfl (h2 _)|exact absurd rfl (h4 _)|exact absurd rfl h5|skip
 all_goals cases hv
 case c.refl=>exact ⟨λc e=>h1 c (by rw [e]),λc e=>h3 c (by rw [e])⟩
 all_goals exact ⟨(λ_ h=>by cases h),(λ_ h=>by cases h)⟩
theorem Cy (r:Rel σ E):∀(l:List (Nat×Operand)) (k:Nat) {us:Ξ},KB σ k l=Y3 us->(l.map λp=>(p.1,ev E p.2))=C8 k us/\Kv us/\us.length=l.length
 |[],k,us,h=>by cases h;exact ⟨rfl,trivial,rfl⟩
 | (i,x)::l,k,us,h=>by
  unfold KB at h;split at h
  ·cases h
  ·cases h
  ·rename_i hi h1 h2;split at h
   ·rename_i v vs hv hs;cases h;obtain ⟨e1,e2,e3⟩:=Cy r l _ hs;obtain rfl:=Yj hi;refine ⟨?_,⟨pS hv (λc e=>h1 c e) (λu e=>h2 u e),e2⟩,by simp [e3]⟩;rw [Xw,e1];show (i,ev E x)::_=(i,v)::_;rw [bl r rfl hv]
   ·cases h
  ·cases h
theorem GP {t:TypeId} {s:ο} {K:En->Ψ} (ho:o.op=.range t x) (hx:ev E x=.string s) (h1:P.underlying t=Y3 .string) (h:∀b,F b=Y5->K (cV E o.dst (.pointer (Y3 ⟨b,0,Y5⟩))) (F.set b (.stringIter s 0))):
  aF P (execOp (ev E) o) F (bL P K o E):=by
 simp only [execOp,ho,hx,Instr.range,aB,bZ h1,aJ,newObj,aF,bL];exact h
theorem GQ {t:TypeId} {v:ξ} {K:En->Ψ} (ho:o.op=.range t x) (hx:ev E x=v) (h:aF P (Instr.range t v) F λr F'=>K (cV E o.dst r) F'):aF P (execOp (ev E) o) F (bL P K o E):=by simp only [execOp,ho,hx,aB,aJ,bL];exact h
theorem OQ {v:ξ} {is:Bool} {K:En->Ψ} (ho:o.op=.next x is) (hx:ev E x=v) (h:aF P (Instr.next v is o.type) F λr F'=>K (cV E o.dst r) F'):aF P (execOp (ev E) o) F (bL P K o E):=by simp only [execOp,ho,hx,aB,aJ,bL];exact h
theorem GR {t:TypeId} {u v q:ξ} {K:En->Ψ} (ho:o.op=.insert t x y z) (hx:ev E x=u) (hy:ev E y=v) (hz:ev E z=q)
  (h:aF P (Instr.mapUpdate t u v q) F λ_ F'=>K (cV E o.dst undef) F'):aF P (execOp (ev E) o) F (bL P K o E):=by
 subst hx hy hz;have:execOp (ev E) o=execOp (ev E) {o with op:=.mapUpdate t x y z}:=by simp only [execOp,ho]
 rw [this];exact oD (o:={o with op:=.mapUpdate t x y z}) rfl rfl rfl rfl h
theorem GT {ts:Array TypeId} {u v:ξ} {K:En->Ψ} (ho:o.op=.call ⟨.builtin .delete,#[x,y],ts⟩) (hx:ev E x=u) (hy:ev E y=v) (h:aF P (Builtin.delete_ ts o.type #[u,v]) F λr F'=>K (cV E o.dst r) F'):
  aF P (execOp (ev E) o) F (bL P K o E):=by
 simp [execOp,ho,resolve,hx,hy,invoke,builtin,bL];exact h
theorem GU (h:sxE P σ o F K) (r:Rel σ E):OP P E F o K:=by
 cases ho:o.op<;>simp only [sxE,ho] at h<;>try exact h.elim
 case alloc t=>
  split at h
  ·rename_i z hz;exact Kr ho hz (iM h r (λ_=>rfl))
  ·exact h.elim
 case box t x=>
  split at h
  ·rename_i c hw;exact Hx ho (ovc r hw) (iM h r (λ_=>rfl))
  ·rename_i v hw;obtain ⟨hc,h⟩:=h;rw [<- hc] at h;exact Hx ho (bl r hw rfl) (iM h r (λ_=>rfl))
  ·rename_i h1 h2;split at h
   ·rename_i v hv;have hc:v.cells= #[v]:=pS hv (λc e=>h1 c e) (λu e=>h2 u e);rw [<- hc] at h;exact Hx ho (bl r rfl hv) (iM h r (λ_=>rfl))
   ·exact h.elim
 case buildSlice t m parts=>
  split at h
  ·rename_i e ht;split at h
   ·rename_i s b z hz hzz;split at h
    ·rename_i hm hs h0;have hm':m*s<=16777216:=YE hm;have hs':z.cells.size=s:=Yj hs;split at h
     ·rename_i l h1 h2 hl;obtain rfl:=Yj h1;obtain ⟨e1,e2,e3⟩:=Cy r _ _ hl;exact iP ho ht hz hm' hzz (by simpa using e1) (Kw (by rw [e3];exact Yj h2) rfl hs' e2) (by rw [hs']) (iM h r (λ_=>rfl))
     ·split at h
      ·rename_i c heq hn;obtain ⟨hcs,h⟩:=h;obtain ⟨p,hp,hpe⟩:=Yi.1 heq;obtain ⟨i,x⟩:=p;simp only [YU] at hpe;obtain ⟨rfl,hx⟩:=hpe;exact iP (vs:=[(0,.agg c)]) ho ht hz hm' hzz (by simp [hp,ovc r hx]) (Ej hcs hs' h0) (by rw [hs']) (iM h r (λ_=>rfl))
      ·obtain ⟨res,e1,h⟩:=r4 r _ _ (by rw [<- qn _ (by rw [hs'];exact h0)];simp [Builtin.zeroCells,hs']) h;refine iP (vs:=parts.toList.map λp=>(p.1,ev E p.2)) ho ht hz hm' hzz (by simp) (cells:=res) ?_ (by rw [hs']) (iM h r (λ_=>rfl));rw [qn _ (by rw [hs'];exact h0)];exact e1
    ·exact h.elim
   ·exact h.elim
  ·exact h.elim
 case store t x y=>
  obtain ⟨σ',a,r',hx,h⟩:=kP h r;have st:∀{v:ξ} {b:Nat},ev E y=v->tsz P t=Y3 (1,b)->v.cells= #[v]->ak v->sto F a v (λF=>K Y6 (σ'.putO o.dst (.sv .und)) F)->OP P E F o K:=by intro v b hy hz hc hst ⟨c,e,h1,h2,h3,h4⟩;exact Hy ho hx hy hz hc rfl hst h2 h1 h3 (KK.f r' (atE h4) rfl)
  split at h
  ·rename_i v n b hy hz;obtain ⟨h1,h2,c,e,h3,h4,h5,h6⟩:=h;refine Hz ho hx (ovc r' hy) hz h1 h2 (λh0=> ?_) h4 h3 h5 (KK.f r' (atE h6) rfl);have:v.toList.length=0:=by rw [h0];rfl
   simp at this;simp [this] at h1
  ·exact h.elim
  ·rename_i v b hna hnt hy hz;exact st (ovc r' hy) hz (pS (w:=.c v) rfl (λc e=>hna c (by cases e;rfl)) (λu e=>by cases e)) (GO (w:=.c v) rfl (λc e=>hna c (by cases e;rfl)) (λu e=>by cases e) (λc e=>hnt c (by cases e;rfl)) (λu e=>by cases e) (λe=>by cases e)) h
  ·rename_i v b hy hz;exact st (bl r' hy rfl) hz h.2.1 h.1 h.2.2
  ·exact h.elim
  ·exact h.elim
  ·rename_i b hz h2 h3 h4 h5 h6 h7;split at h
   ·rename_i v hv;exact st (bl r' rfl hv) hz (pS hv (λc e=>h2 c e) (λu e=>h5 u e)) (GO hv (λc e=>h2 c e) (λu e=>h5 u e) (λc e=>h3 c e) (λu e=>h6 u e) (λe=>h7 e)) h
   ·exact h.elim
  ·exact h.elim
 case range t x=>
  split at h
  ·rename_i s ht hx;exact GP ho (ovc r hx) ht (iM h r (λ_=>rfl))
  ·split at h
   ·rename_i v hv;exact GQ ho (bl r rfl hv) (dn _ _ h λu F' ⟨b,hb,h⟩=>by subst hb;exact KK.f r h rfl)
   ·exact h.elim
  ·exact h.elim
 case next x is=>
  split at h
  ·rename_i v hv;exact OQ ho (bl r rfl hv) (dn _ _ h λu F' ⟨b,hb,h⟩=>by subst hb;exact KK.f r h rfl)
  ·exact h.elim
 case makeSlice t x y=>
  split at h
  ·rename_i u v hu hv;exact yo ho (bl r rfl hu) (bl r rfl hv) (dn _ _ h λu F' ⟨b,hb,h⟩=>by subst hb;exact KK.f r h rfl)
  ·exact h.elim
 case makeMap t q=>
  cases q<;>simp only at h<;>try exact h.elim
  exact AK ho (iM h r (λ_=>rfl))
 case mapUpdate t x y z=>
  split at h
  ·rename_i u v w hu hv hw;exact oD ho (bl r rfl hu) (bl r rfl hv) (bl r rfl hw) (dn _ _ h λu F' h=>KK.f r h rfl)
  ·exact h.elim
 case insert t x y z=>
  split at h
  ·rename_i u v w hu hv hw;exact GR ho (bl r rfl hu) (bl r rfl hv) (bl r rfl hw) (dn _ _ h λu F' h=>KK.f r h rfl)
  ·exact h.elim
 case defer c=>
  obtain ⟨cal,args,ts⟩:=c;obtain ⟨args⟩:=args;cases cal with
  |value g=>
   obtain ⟨us,h1,h⟩:=jV r _ h;split at h
   ·rename_i f a b hg;exact Ku ho (ovc r hg) (by rw [<- h1];simp) h.1 (KK.f r h.2 rfl)
   ·exact h.elim
  |_=>exact h.elim
 case call c=>
  obtain ⟨cal,args,ts⟩:=c;obtain ⟨args⟩:=args;cases cal with
  |invoke=>exact h.elim
  |builtin b=>
   simp only at h;split at h
   ·split at h
    ·rename_i x y u v hu hv;exact HB ho (bl r rfl hu) (bl r rfl hv) (dn _ _ h λu F' ⟨b,hb,h⟩=>by subst hb;exact KK.f r h rfl)
    ·exact h.elim
   ·split at h
    ·rename_i x y u v hu hv;exact Pd ho (bl r rfl hu) (bl r rfl hv) (dn _ _ h λu F' ⟨b,hb,h⟩=>by subst hb;exact KK.f r h rfl)
    ·exact h.elim
   ·split at h
    ·rename_i x y u v hu hv;exact GT ho (bl r rfl hu) (bl r rfl hv) (dn _ _ h λu F' h=>KK.f r h True.intro)
    ·exact h.elim
   ·exact h.elim
  |value g=>
   have cF:∀(h:wR σ args λvs=>(match σ.ov g with
     | .c (.func (.func f) a b)=>okN (aC P f) (ai P f (a++vs.toArray++b) F λv F=>yv P σ o.dst o.type v λσ=>K Y6 σ F)
     | .any u=>∃(k:Nat) (a b:Γ),u=.func (.func k) a b/\aC P k=Y8/\ai P k (a++vs.toArray++b) F λv F=>yv P σ o.dst o.type v λσ=>K Y6 σ F
     |_=>False)),OP P E F o K:=by
    intro h;obtain ⟨us,h1,h⟩:=jV r _ h;split at h
    ·rename_i f a b hg;obtain ⟨hc,h⟩:=eN h;exact C7 ho (ovc r hg) hc (by rw [<- h1];simp) (h.mono λv F' h=>Ak h r)
    ·rename_i u hg;obtain ⟨f,a,b,rfl,hc,h⟩:=h;exact C7 ho (bl r hg rfl) hc (by rw [<- h1];simp) (h.mono λv F' h=>Ak h r)
    ·exact h.elim
   cases g with
   |func f=>obtain ⟨us,h1,h⟩:=jV r _ h;obtain ⟨hc,h⟩:=eN h;exact Pc ho hc (by rw [<- h1];simp) (h.mono λv F' h=>Ak h r)
   |_=>exact cF h
end
section
variable {P:Program} {σ:Sy} {E:En} {F:PH} {n:Nat} {ops:Array Oper}
def Fr (M:Δ) (E E':En):Prop:=∀t,oU M t=Y6->E' t=E t
theorem ya {a b:Δ} {t:Nat}:oU (a++b) t=Y6↔oU a t=Y6/\oU b t=Y6:=by
 induction a with
 |nil=>simp [oU]
 |cons x a ih=>simp only [XP,oU];cases Nat.beq t x<;>simp [ih]
theorem Fr.refl {M:Δ} {E:En}:Fr M E E:=λ_ _=>rfl
theorem Fr.trans {M:Δ} {E E' E'':En} (h:Fr M E E') (h':Fr M E' E''):Fr M E E'':=λt ht=>(h' t ht).trans (h t ht)
theorem Fr.left {a b:Δ} {E E':En} (h:Fr a E E'):Fr (a++b) E E':=λt ht=>h t (ya.1 ht).1
theorem Fr.right {a b:Δ} {E E':En} (h:Fr b E E'):Fr (a++b) E E':=λt ht=>h t (ya.1 ht).2
theorem r5 {M:Δ} {d:Nat} (h:d∈M) {t:Nat} (ht:oU M t=Y6):t≠d:=by
 induction M with
 |nil=>cases h
 |cons x M ih=>
  simp only [oU] at ht;intro e;subst e;rcases W6.1 h with rfl|h
  ·have:Nat.beq t t=Y8:=by simp
   rw [this] at ht;cases ht
  ·cases hb:Nat.beq t x<;>rw [hb] at ht
   ·exact ih h ht rfl
   ·cases ht
theorem Al {M:Δ} {d:Option Tmp} {v:ξ} (h:∀t,d=Y3 t->t∈M):Fr M E (cV E d v):=λt ht=>pR λe=>r5 (h t e) ht rfl
theorem yb {l:List Oper} {o:Oper} {d:Nat} (ho:o∈l) (hd:o.dst=Y3 d):d∈HU l:=by
 induction l with
 |nil=>cases ho
 |cons x l ih=>
  unfold HU;rcases W6.1 ho with rfl|ho
  ·rw [hd];exact Ya ..
  ·split
   ·exact Xo _ (ih ho)
   ·exact ih ho
def QK (M:Δ) (E0:En) (K:CK):Exit->En->Ψ:=λex E F=>(∃σ,Rel σ E/\K ex σ F)/\Fr M E0 E
inductive GOk (ops:Array Oper) (σ:Sy) (E:En) (o:Oper):G->Prop
 |go (h:Region.wanted o (yE ops E)=Y8):GOk ops σ E o .go
 |no (h:Region.wanted o (yE ops E)=Y6):GOk ops σ E o .no
 |split (i:Nat) (b:SB) (want v:Bool) (hi:σ.T i=Y3 b) (hv:b.v=.bool v) (h:Region.wanted o (yE ops E)=(v==want)):GOk ops σ E o (.split i b want)
 |bad:GOk ops σ E o .bad
theorem MR {j t:Nat} (hj:(ops[j]?).bind (·.dst)=Y3 t):yE ops E j=(match E t with| .bool b=>Y3 b|_=>Y5):=by unfold yE;rw [hj]<;>rfl
theorem df (r:Rel σ E) {t:Nat} {w:VW} {v:ξ} (hw:σ.vw t=w) (hv:w.val=Y3 v):E t=v:=MQ (r.val t) (by rw [<- hw] at hv;exact hv)
theorem An (r:Rel σ E) (o:Oper):GOk ops σ E o (grd ops σ o):=by
 unfold grd;split
 ·rename_i hg;exact .go (by unfold Region.wanted;rw [hg])
 ·rename_i j want hg;have hwn:∀y,Region.wanted o y=(y j==Y3 want):=λy=>by unfold Region.wanted;rw [hg]
  split
  ·rename_i hn;refine .no ?_;rw [hwn];unfold yE;rw [hn];rfl
  ·rename_i t ht;have hb:∀{b:Bool},E t=.bool b->Region.wanted o (yE ops E)=(b==want):=by intro b hb;rw [hwn,MR ht,hb];cases b<;>cases want<;>rfl
   split
   ·rename_i b hw;have:=hb (df r hw rfl);split
    ·rename_i hbw;exact .go (by rw [this];exact hbw)
    ·rename_i hbw;exact .no (by rw [this];exact hbw)
   ·rename_i hw;refine .no ?_;rw [hwn,MR ht,df r hw rfl];rfl
   ·rename_i i b hw;exact .split i _ want b (GK hw) rfl (hb (df r hw rfl))
   ·rename_i i p d hw;exact .split i _ want _ (JU hw) rfl (hb (df r hw rfl))
   ·exact .bad
theorem GW {b:SB} {v:Bool} {f:Bool->Prop} (h:spl b f) (hv:b.v=.bool v):f v:=by
 unfold spl at h;split at h
 ·rename_i b;obtain rfl:b=v:=by simpa [SB.v] using hv
  cases b
  ·exact h.2 rfl
  ·exact h.1 rfl
 ·rename_i p d;have: @decide p d=v:=by simpa [SB.v] using hv
  cases v
  ·exact h.2 (η this)
  ·exact h.1 (ε this)
 ·exact h.elim
theorem OR {Q:Exit->En->Ψ} {o:Oper} {l:List Oper} {K:Sy->Ψ} (hw:Region.wanted o (yE ops E)=Y8) (hd:fK n o.dst=Y8) (h:sxO P o K σ F) (r:Rel σ E)
  (k:∀σ' E' F',Rel σ' E'->(∀t,o.dst≠Y3 t->E' t=E t)->K σ' F'->HL P n ops Q l E' F'):HL P n ops Q (o::l) E F:=by
 unfold sxO at h;split at h
 ·obtain ⟨σ',nv,ck,v,hy,r',hv,_,h⟩:=GN h r;exact Ua hy (k _ _ _ (r'.putO hv) (λ_ ht=>pR ht) h) hw hd
 ·have:=GU h r;refine NA hw hd (dn _ _ this ?_);intro nx F' hn;cases nx with
  |value v=>obtain ⟨fl,σ',_,r',fr,h⟩:=hn;exact k _ _ _ r' fr h
  |skip=>obtain ⟨fl,σ',_,r',fr,h⟩:=hn;exact k _ _ _ r' fr h
  |enter f args=>exact hn.mono λv F' ⟨fl,σ',_,r',fr,h⟩=>k _ _ _ r' fr h
  |defer d=>obtain ⟨hi,fl,σ',_,r',fr,h⟩:=hn;exact ⟨hi,k _ _ _ r' fr h⟩
  |_=>exact hn
theorem Ao {M:Δ} {E0:En} {K:CK}:∀(l:List Oper) (σ:Sy) (E:En) (F:PH),(∀o∈l,∀t,o.dst=Y3 t->t∈M)->Fr M E0 E->sxL P n ops (K .normal) l σ F->Rel σ E->HL P n ops (QK M E0 K) l E F
 |[],σ,E,F,_,fr,h,r=>O1 ⟨⟨σ,r,h⟩,fr⟩
 |o::l,σ,E,F,hM,fr,h,r=>by
  unfold sxL at h;obtain ⟨hd,h⟩:=eN h;have step:∀{σ:Sy},Rel σ E->Region.wanted o (yE ops E)=Y8->sxO P o (sxL P n ops (K .normal) l) σ F->HL P n ops (QK M E0 K) (o::l) E F:=λr hw h=>
   OR hw hd h r λσ' E' F' r' hf h'=>Ao l σ' E' F' (λo ho=>hM o (Xo _ ho))
    (fr.trans λt ht=>hf t λe=>r5 (hM o (Ya ..) t e) ht rfl) h' r'
  have skip:∀{σ:Sy},Rel σ E->Region.wanted o (yE ops E)=Y6->sxL P n ops (K .normal) l (σ.putO o.dst (.sv .und)) F->HL P n ops (QK M E0 K) (o::l) E F:=λr hw h=>
   Kf hw hd (Ao l _ _ F (λo ho=>hM o (Xo _ ho)) (fr.trans (Al λt e=>hM o (Ya ..) t e)) h (r.putO rfl))
  have g:=An (ops:=ops) r o;revert h g;cases grd ops σ o with
  |go=>intro h g;cases g with|go hw=>exact step r hw h
  |no=>intro h g;cases g with|no hw=>exact skip r hw h
  |bad=>intro h g;exact h.elim
  |split i b want=>
   intro h g;cases g with
   |split _ _ _ v hi hv hw=>
    have h:=GW h hv;have r':Rel (σ.rf i (.lit v)) E:=r.rf hi hv;split at h
    ·rename_i hvw;exact step r' (by rw [hw];exact hvw) h
    ·rename_i hvw;exact skip r' (by rw [hw];exact hvw) h
end
inductive PW:Pn->cv->Prop
 |nil:PW [] []
 |cons {i:Nat} {c:Ψ} {S:World->Prop} {pend:Pn} {Sp:cv} (h:∀F,c F->Ay F S) (t:PW pend Sp):PW ((i,c)::pend) ((i,S)::Sp)
theorem PW.rest {o:Oper} {pend:Pn} {Sp:cv} (h:PW pend Sp):PW (pend.filter λp=> !Oper.waits .any o p.1) (cv.rest .any o Sp):=by
 induction h with
 |nil=>exact .nil
 |cons h t ih=>
  rename_i i c S pend Sp;unfold cv.rest at*;simp only [List.filter_cons];cases Oper.waits .any o i
  ·exact .cons h ih
  ·exact ih
theorem JX {F:PH} {pend:Pn} {Sp:cv} (h:PW pend Sp) {K:Prop} (hc:Po F pend K):gi Sp F/\K:=by
 induction h with
 |nil=>exact ⟨NJ,hc⟩
 |cons h t ih=>exact ⟨NK (h _ hc.1) (ih hc.2).1,(ih hc.2).2⟩
theorem JY {F F':PH} {S:World->Prop} (hl:F.le F') (h:Ay F S):Ay F' S:=λe w st=>h e w
 ⟨st.os,st.tape,st.output,λb o hb=>st.heap b o (hl b o hb),λb o hb=>⟨(by
  cases hF:F b with
  |none=>rfl
  |some u=>
   have h1:=(st.frame b o hb).1;rw [hl b u hF] at h1
   cases h1),(st.frame b o hb).2⟩⟩
theorem JZ {F F':PH} {Sp:cv} (hl:F.le F') (h:gi Sp F):gi Sp F':=λr hr=>JY hl (h r hr)
theorem Ec {F:PH} {o:Oper} {Sp:cv} (h:gi Sp F):gi (cv.rest .any o Sp) F:=λr hr=>h r (Yv.1 hr).1
theorem Cz:∀{l:List Prop},Pq l->∀p∈l,p
 |[],h=>h.elim
 |[p],h=>by intro q hq;rw [W5] at hq;subst hq;exact h
 |p::q::l,h=>by
  intro u hu;rcases W6.1 hu with rfl|hu
  ·exact h.1
  ·exact Cz h.2 u hu
theorem yc {ops:Array Oper} {σ:Sy} {i:Nat} {o:Oper} {g:G}:∀{l:Δ},uz ops σ l=Y3 (i,o,g)->ops[i]? =Y3 o/\grd ops σ o=g
 |[],h=>by cases h
 |j::l,h=>by
  unfold uz at h;split at h
  ·cases h
  ·rename_i u hu;split at h
   ·rename_i hg;split at h
    ·cases h;exact ⟨hu,hg⟩
    ·exact yc h
   ·cases h;exact ⟨hu,rfl⟩
theorem yd {ops:Array Oper} {σ:Sy}:∀{l:Δ},uz ops σ l=Y5->(∀i∈l,ops[i]?≠Y5)->∀i∈l,∀o,ops[i]? =Y3 o->grd ops σ o=.go
 |[],_,_=>λi hi=>by cases hi
 |j::l,h,hn=>by
  unfold uz at h;split at h
  ·rename_i hj;exact absurd hj (hn j (Ya ..))
  ·rename_i u hu;split at h
   ·rename_i hg;split at h
    ·cases h
    ·intro i hi o ho;rcases W6.1 hi with rfl|hi
     ·rw [hu] at ho;cases ho;exact hg
     ·exact yd h (λi hi=>hn i (Xo _ hi)) i hi o ho
   ·cases h
section
variable {P:Program} {n:Nat} {ops:Array Oper} {M:Δ} {E0:En} {K:CK}
theorem Aq {o:Oper} {E:En} {F:PH} {A B:En->Ψ} (h:aF P (execOp (ev E) o) F (bL P A o E)) (hab:∀E' F',A E' F'->B E' F'):aF P (execOp (ev E) o) F (bL P B o E):=
 dn _ _ h λnx F' hn=>by
  cases nx with
  |value v=>exact hab _ _ hn
  |skip=>exact hab _ _ hn
  |enter f args=>exact hn.mono λv F' h=>hab _ _ h
  |defer d=>exact ⟨hn.1,hab _ _ hn.2⟩
  |_=>exact hn
def jW (K:CK):Prop:=∀c σ F,¬K (.panic c) σ F
theorem kQ (hK:jW K) (hM:∀o∈ops.toList,∀t,o.dst=Y3 t->t∈M):∀(k fuel:Nat) (listed:Array Bool) (pend:Pn) (Sp:cv) (σ:Sy) (E:En) (F:PH),Fr M E0 E->PW pend Sp->gi Sp F->
  sxD P n ops (K .normal) k fuel listed pend σ F->Rel σ E->RG P n ops (QK M E0 K) fuel listed Sp E F
 |0,fuel,listed,pend,Sp,σ,E,F,fr,pw,hh,h,r=>by unfold sxD at h;exact h.elim
 |k+1,fuel,listed,pend,Sp,σ,E,F,fr,pw,hh,h,r=>by
  have hp:∀c E F,¬QK M E0 K (.panic c) E F:=λc E F ⟨⟨σ,_,h⟩,_⟩=>hK c σ F h;have mem:∀{i:Nat} {o:Oper},ops[i]? =Y3 o->o∈ops.toList:=λh=>by rw [<- Yk] at h;exact W7 h
  unfold sxD at h;split at h
  ·rename_i hr;exact Kj hr ⟨⟨σ,r,h⟩,fr⟩
  ·rename_i rs hne;split at h
   ·exact h.elim
   ·rename_i fuel;split at h
    ·rename_i i o g hpk;obtain ⟨hi,hg⟩:=yc hpk;obtain ⟨hb,h⟩:=eN h;simp only [XJ] at hb;obtain ⟨⟨⟨h1,h2⟩,h3⟩,h4⟩:=hb;have gk:=An (ops:=ops) r o;rw [hg] at gk;split at h
     ·cases gk with
      |no hw=>exact Kl hi h1 h2 h3 h4 hp hw hh (kQ hK hM k fuel _ pend Sp _ _ F (fr.trans (Al λt e=>hM o (mem hi) t e)) pw hh h (r.putO rfl))
     ·rename_i j b want;cases gk with
      |split _ _ _ v hj hv hw=>have h:=GW h hv;exact kQ hK hM k (fuel+1) _ pend Sp _ _ F fr pw hh h (r.rf hj hv)
     ·cases gk with
      |go hw=>
       obtain ⟨σ',nv,ck,v,hy,r',hnv,hck,h⟩:=GN h r;have fr':Fr M E0 (cV E o.dst v):=fr.trans (Al λt e=>hM o (mem hi) t e);cases ck with
       |none=>exact Uc hi h1 h2 h3 h4 hp hw hck hh (kQ hK hM k fuel _ pend Sp _ _ F fr' pw hh h (r'.putO hnv))
       |some c=>refine Ub hi h1 h2 h3 h4 hp hw hy hh (kQ hK hM k fuel _ ((i,c)::pend) _ _ _ F fr' (.cons (λF hc=>C5 (hck.2 F hc)) pw) (NK (C5 hy) hh) h (r'.putO hnv))
     ·exact h.elim
    ·rename_i hpk;have hall:=Cz h;have hev:∀i∈Region.ready .any ops listed,∃o,ops[i]? =Y3 o/\_:=λi hi=>by
      have:=hall _ (Xi.2 ⟨i,hi,rfl⟩);split at this
      ·exact this.elim
      ·rename_i o ho;exact ⟨o,ho,this⟩
     have hgo:=yd hpk (λi hi e=>by obtain ⟨o,ho,_⟩:=hev i hi;rw [e] at ho;cases ho);refine O2 rfl (by cases hl:Region.ready .any ops listed with|nil=>exact absurd hl hne|cons _ _=>rfl) λi hi=> ?_;obtain ⟨o,ho,hx⟩:=hev i hi;obtain ⟨hd,hx⟩:=eN hx;have gk:=An (ops:=ops) r o;rw [hgo i hi o ho] at gk;cases gk with
     |go hw=>
      refine ⟨o,ho,hd,hw,Aq (GU hx r) ?_⟩;rintro E' F' ⟨fl,σ',hl,r',hf,h⟩;have fr':Fr M E0 E':=fr.trans λt ht=>hf t λe=>r5 (hM o (mem ho) t e) ht rfl;cases fl with
      |true=>have hh':=JZ (hl rfl) (Ec (o:=o) hh);exact ⟨hh',kQ hK hM k fuel _ _ _ _ _ F' fr' pw.rest hh' h r'⟩
      |false=>obtain ⟨hh',h⟩:=JX pw.rest h;exact ⟨hh',kQ hK hM k fuel _ _ _ _ _ F' fr' pw.rest hh' h r'⟩
end
section
variable {P:Program} {n:Nat} {σ σ0:Sy} {E:En} {F:PH} {K:CK}
theorem fj {c:Code} {Q Q':Exit->En->Ψ} (h:HC P n c Q E F) (k:∀x E F,Q x E F->Q' x E F):HC P n c Q' E F:=λe a w ag st=>
 wp_mono (h e a w ag st) λ_ _ _ ⟨E',F',ag',st',q⟩=>⟨E',F',ag',st',k _ _ _ q⟩
theorem Rel.hav (r:Rel σ E) {M:Δ} {E':En} (fr:Fr M E E'):Rel (σ.hav M) E':=by
 refine ⟨λt=> ?_,r.top⟩;show okV σ.T (bif oU M t then .unk else σ.S t) (E' t);cases hm:oU M t with
 |true=>exact True.intro
 |false=>rw [fr t hm];exact r.val t
theorem wB {t:Nat} {k:Kd} {J:k.T->Prop} (h:pay (σ.vw t) k J) (r:Rel σ E):∃x,E t=k.v x/\J x/\∀J':k.T->Prop,J' x->pay (σ.vw t) k J':=by
 cases k<;>simp only [pay] at h ⊢
 case int k=>
  split at h
  ·rename_i k' x hw;split at h
   ·rename_i hk;obtain rfl:=ε hk;exact ⟨x,df r hw rfl,h,λJ' h'=>h'⟩
   ·exact h.elim
  ·exact h.elim
 case bool=>
  split at h
  ·rename_i b hw;exact ⟨b,df r hw rfl,h,λ_ h'=>h'⟩
  ·rename_i i b hw;exact ⟨b,df r hw rfl,h,λ_ h'=>h'⟩
  ·rename_i i p d hw;exact ⟨_,df r hw rfl,h,λ_ h'=>h'⟩
  ·exact h.elim
 case ptr=>
  split at h
  ·rename_i a hw;exact ⟨Y3 a,df r hw rfl,h,λ_ h'=>h'⟩
  ·rename_i i p hw;exact ⟨p,df r hw rfl,h,λ_ h'=>h'⟩
  ·rename_i p hw;exact ⟨p,df r hw rfl,h,λ_ h'=>h'⟩
  ·exact h.elim
 case sl=>
  split at h
  ·rename_i b l c hw;exact ⟨⟨b,l,c⟩,df r hw rfl,h,λ_ h'=>h'⟩
  ·exact h.elim
 case str=>
  split at h
  ·rename_i s hw;exact ⟨s,df r hw rfl,h,λ_ h'=>h'⟩
  ·exact h.elim
 case map=>
  split at h
  ·rename_i s hw;exact ⟨s,df r hw rfl,h,λ_ h'=>h'⟩
  ·exact h.elim
 case agg=>
  split at h
  ·rename_i s hw;exact ⟨s,df r hw rfl,h,λ_ h'=>h'⟩
  ·exact h.elim
 case any=>
  split at h
  ·rename_i v hw;exact ⟨v,df r rfl hw,h,λ_ h'=>h'⟩
  ·exact h.elim
theorem GX (r:Rel σ0 E) {t:Nat} {k:Kd} {x:k.T} (hx:E t=k.v x):Rel (σ0.put t (k.nv x)) E:=by have:=r.put (d:=t) (rZ (T:=σ0.T) k x);rw [yq hx] at this;exact this
theorem CA {f:Sy->Ψ} (r:Rel σ E):∀(l:List (Nat×Kd)) {J:Tl l} {σ0:Sy},Pt f l J σ0->Rel σ0 E->jap σ l J F->∃σ',Rel σ' E/\f σ' F
 |[],J,σ0,h,r0,hj=>⟨σ0,r0,h F hj⟩
 | (t,k)::l,J,σ0,h,r0,hj=>by obtain ⟨x,hx,hj,_⟩:=wB hj r;exact CA r l (h x) (GX r0 hx) hj
theorem Ar {f:Sy->Ψ} (r:Rel σ E):∀(l:List (Nat×Kd)) {σ0:Sy},Rel σ0 E->jap σ l (jbd f l σ0) F->∃σ',Rel σ' E/\f σ' F
 |[],σ0,r0,hj=>⟨σ0,r0,hj⟩
 | (t,k)::l,σ0,r0,hj=>by obtain ⟨x,hx,hj,_⟩:=wB hj r;exact Ar r l (GX r0 hx) hj
theorem CB (r:Rel σ E):∀(l:List (Nat×Kd)) {J Y:Tl l},Pu l J Y->jap σ l J F->jap σ l Y F
 |[],J,Y,h,hj=>h F hj
 | (t,k)::l,J,Y,h,hj=>by obtain ⟨x,hx,hj,hp⟩:=wB hj r;exact hp _ (CB r l (h x) hj)
theorem GY (r:Rel σ E):∀(l:List (Nat×Kd)) {I:Nat->Tl l} {m:Nat},jap σ l (jdn l I m) F->∃m',m'<m/\jap σ l (I m') F
 |[],I,m,h=>h
 | (t,k)::l,I,m,h=>by obtain ⟨x,hx,hj,hp⟩:=wB h r;obtain ⟨m',hm,hj⟩:=GY r l hj;exact ⟨m',hm,hp _ hj⟩
theorem wC {f:Sy->Ψ} (h:jW K):jW (onN f K):=h
theorem OS {id:Nat} (h:jW K):jW (onX id K):=h
theorem kC:∀(c:Code) (h:jf) (K:CK) (σ:Sy) (E:En) (F:PH),jW K->sx P n c h K σ F->Rel σ E->HC P n c (QK (jg c) E K) E F
 | .skip,_,K,σ,E,F,_,h,r=>Kb ⟨⟨σ,r,h⟩,.refl⟩
 | .ret,_,K,σ,E,F,_,h,r=>O0 ⟨⟨σ,r,h⟩,.refl⟩
 | .exit i,_,K,σ,E,F,_,h,r=>Kc ⟨⟨σ,r,h⟩,.refl⟩
 | .region id ⟨ops⟩ Y6,_,K,σ,E,F,hK,h,r=>Ef (Ao ops σ E F (λo ho t ht=>yb ho ht) .refl h r)
 | .region id ops Y8,_,K,σ,E,F,hK,h,r=>by unfold sx at h;obtain ⟨hm,h⟩:=eN h;exact Ki hm (kQ hK (λo ho t ht=>yb ho ht) _ _ _ _ _ _ _ _ .refl .nil NJ h r)
 | .seq a b,hh,K,σ,E,F,hK,h,r=>by
  have other:∀{f:Sy->Ψ} (x:Exit) (E':En) (F':PH),x≠.normal->QK (jg a) E (onN f K) x E' F'->QK (jg (.seq a b)) E K x E' F':=by intro f x E' F' hx ⟨⟨σ',r',h'⟩,fr⟩;refine ⟨⟨σ',r',?_⟩,fr.left⟩;cases x<;>first|exact absurd rfl hx|exact h'
  have thn:∀{σ':Sy} {E':En} {F':PH},Fr (jg a) E E'->Rel σ' E'->sx P n b hh.snd K σ' F'->HC P n b (QK (jg (.seq a b)) E K) E' F':=by intro σ' E' F' fr r' h';exact fj (kC b _ K σ' E' F' hK h' r') λx E'' F'' ⟨h1,fr'⟩=>⟨h1,fr.left.trans fr'.right⟩
  unfold sx at h;split at h
  ·refine Aw (fj (kC a _ _ σ E F (wC hK) h r) λx E' F' q=> ?_);cases x with
   |normal=>obtain ⟨⟨σ',r',h'⟩,fr⟩:=q;exact thn fr r' h'
   |_=>exact other _ _ _ (by intro e;cases e) q
  ·rename_i l _;refine Aw (fj (kC a _ _ σ E F (wC hK) h r) λx E' F' q=> ?_);cases x with
   |normal=>obtain ⟨⟨σ',r',h'⟩,fr⟩:=q;obtain ⟨σ2,r2,h2⟩:=Ar r' l (r.hav fr) h';exact thn fr r2 h2
   |_=>exact other _ _ _ (by intro e;cases e) q
  ·rename_i l _;obtain ⟨J,hJ,h⟩:=h;refine Aw (fj (kC a _ _ σ E F (wC hK) h r) λx E' F' q=> ?_);cases x with
   |normal=>obtain ⟨⟨σ',r',h'⟩,fr⟩:=q;obtain ⟨σ2,r2,h2⟩:=Ar r' l (r.hav fr) (CB r' l hJ h');exact thn fr r2 h2
   |_=>exact other _ _ _ (by intro e;cases e) q
 | .cond c a b,hh,K,σ,E,F,hK,h,r=>by
  have ha:sx P n a hh.fst K σ F->HC P n a (QK (jg (.cond c a b)) E K) E F:=λh=>fj (kC a _ K σ E F hK h r) λx E' F' ⟨h1,fr⟩=>⟨h1,fr.left⟩;have hb:sx P n b hh.snd K σ F->HC P n b (QK (jg (.cond c a b)) E K) E F:=λh=>fj (kC b _ K σ E F hK h r) λx E' F' ⟨h1,fr⟩=>⟨h1,fr.right⟩;unfold sx at h;split at h
  ·rename_i hw;exact HD (bl r hw rfl) (ha h)
  ·rename_i hw;exact HE (bl r hw rfl) (hb h)
  ·rename_i i t hw;exact qh (bl r hw rfl) (λht=>ha (h.1 ht)) (λht=>hb (h.2 ht))
  ·rename_i i p d hw;exact qh (t:= @decide p d) (bl r hw rfl) (λht=>ha (h.1 (ε ht))) (λht=>hb (h.2 (η ht)))
  ·exact h.elim
 | .block id c,hh,K,σ,E,F,hK,h,r=>by
  refine Hp (fj (kC c hh _ σ E F (OS hK) h r) λx E' F' q=> ?_);obtain ⟨⟨σ',r',h'⟩,fr⟩:=q;cases x with
  |exit i=>
   show bif Nat.beq i id then QK _ E K .normal E' F' else QK _ E K (.exit i) E' F'
   have h':bif Nat.beq i id then K .normal σ' F' else K (.exit i) σ' F':=h'
   cases hb:Nat.beq i id<;>rw [hb] at h'<;>exact ⟨⟨σ',r',h'⟩,fr⟩
  |_=>exact ⟨⟨σ',r',h'⟩,fr⟩
 | .loop c,hh,K,σ,E,F,hK,h,r=>by
  obtain ⟨I,m,h0,hr⟩:=h;refine Ke (λm E' F'=>(∃σ',Rel σ' E'/\jap σ' hh.lv (I m) F')/\Fr (jg c) E E') m ⟨⟨σ,r,h0⟩,.refl⟩ ?_;rintro m E' F' ⟨⟨σ',r',hj⟩,fr⟩;obtain ⟨σ2,r2,h2⟩:=CA r' _ (hr m) (r.hav fr) hj;refine fj (kC c _ _ σ2 E' F' (wC hK) h2 r2) λx E'' F'' q=> ?_;obtain ⟨⟨σ3,r3,h3⟩,fr'⟩:=q;cases x with
  |normal=>obtain ⟨m',hm,hj'⟩:=GY r3 _ h3;exact ⟨m',hm,⟨σ3,r3,hj'⟩,fr.trans fr'⟩
  |_=>exact ⟨⟨σ3,r3,h3⟩,fr.trans fr'⟩
 | .rangeFunc ..,_,_,_,_,_,_,h,_=>h.elim
 | .label _,_,K,σ,E,F,_,h,r=>Hn ⟨⟨σ,r,h⟩,.refl⟩
 | .scope c,hh,K,σ,E,F,hK,h,r=>by
  refine Ho (fj (kC c hh (noG K) σ E F (λc σ F h=>hK c σ F h) h r) λx E' F' q=> ?_);obtain ⟨⟨σ',r',h'⟩,fr⟩:=q;cases x with
  |goto l=>exact h'.elim
  |_=>exact ⟨⟨σ',r',h'⟩,fr⟩
 | .goto _,_,_,_,_,_,_,h,_=>h.elim
 | .refuse _,_,_,_,_,_,_,h,_=>h.elim
inductive RVs (P:Program) (E:En) (F:PH):List ResultVar->Ξ->Prop
 |nil:RVs P E F [] []
 |cons {r:ResultVar} {v:ξ} {l:List ResultVar} {vs:Ξ} (h:kT P E F r v) (t:RVs P E F l vs):RVs P E F (r::l) (v::vs)
theorem jz (r:Rel σ E):∀(l:List ResultVar) {K:Ξ->Prop},sJ P σ l F K->∃vs,RVs P E F l vs/\K vs
 |[],K,h=>⟨[],.nil,h⟩
 | .tmp t::l,K,h=>by
  unfold sJ at h;split at h
  ·rename_i v hv;obtain ⟨vs,h1,h2⟩:=jz r l h;exact ⟨v::vs,.cons (wK (df r rfl hv)) h1,h2⟩
  ·exact h.elim
 | .cell x t::l,K,h=>by
  unfold sJ at h;split at h
  ·rename_i a hw;split at h
   ·exact h.elim
   ·rename_i d hd;split at h
    ·rename_i hk;split at h
     ·rename_i m b hz;obtain ⟨v,h1,h2,h⟩:=h;obtain ⟨vs,h3,h4⟩:=jz r l h;exact ⟨_,.cons (HH (df r hw rfl) hd (wA hk) hz h1 h2) h3,h4⟩
     ·exact h.elim
    ·rename_i hk;obtain ⟨v,h1,h⟩:=h;obtain ⟨vs,h3,h4⟩:=jz r l h;exact ⟨_,.cons (HI (df r hw rfl) hd (pQ hk) h1) h3,h4⟩
  ·exact h.elim
theorem GZ {fn:Func} {vs:Ξ} (h:RVs P E F fn.results.toList vs) (hl:Nat.ble fn.results.size 4=Y8):sg P fn E F (UH vs):=by
 have hl:=YE hl;have key:∀l,fn.results.toList=l->fn.results=l.toArray:=λl h=>by rw [<- h]
 generalize hg:fn.results.toList=l at h;have hk:=key _ hg;have hlen:l.length<=4:=by rw [<- hg];simpa using hl
 cases h with
 |nil=>exact WA hk
 |cons h1 t=>
  cases t with
  |nil=>exact Uq hk h1
  |cons h2 t=>
   cases t with
   |nil=>exact Ur hk h1 h2
   |cons h3 t=>
    cases t with
    |nil=>exact WB hk h1 h2 h3
    |cons h4 t=>
     cases t with
     |nil=>exact WG hk h1 h2 h3 h4
     |cons h5 t=>simp at hlen
theorem OT {fn:Func} {R:ξ->Ψ} {x:Exit} {M:Δ} {E0:En} (h:QK M E0 (UI P fn R) x E F):Kg P fn R x E F:=by
 obtain ⟨⟨σ,r,h⟩,_⟩:=h;cases x with
 |normal=>obtain ⟨hl,h⟩:=eN h;obtain ⟨vs,h1,h2⟩:=jz r _ h;exact ⟨_,GZ h1 hl,h2⟩
 |ret=>obtain ⟨hl,h⟩:=eN h;obtain ⟨vs,h1,h2⟩:=jz r _ h;exact ⟨_,GZ h1 hl,h2⟩
 |_=>exact h.elim
theorem r7:∀(vs:Ξ) (ts:List TypeId) (i:Nat) (σ:Sy),(∀j v,vs[j]? =Y3 v->E (i+j)=v)->Rel σ E->Rel (Dc P i ts vs σ) E
 |[],ts,i,σ,_,r=>by cases ts<;>exact r
 |v::vs,ts,i,σ,h,r=>by
  have hi:E i=v:=h 0 v rfl;have step:∀k:Kd,Rel (σ.put i (ofk k v)) E:=λk=>by have:=r.put (d:=i) (GL (T:=σ.T) k v);rw [yq hi] at this;exact this
  have hn:∀j u,vs[j]? =Y3 u->E (i+1+j)=u:=λj u hj=>by have:=h (j+1) u (by simpa using hj);rw [show i+1+j=i+(j+1) by omega];exact this
  cases ts with
  |nil=>exact r7 vs [] (i+1) _ hn (step _)
  |cons t ts=>exact r7 vs ts (i+1) _ hn (step _)
theorem OU {k:Nat} {h:jf} {args:Ξ} {R:ξ->Ψ} (hs:sxF P k h args R F):ai P k args.toArray F R:=by
 unfold sxF at hs;split at hs
 ·exact hs.elim
 ·rename_i fn hf;split at hs
  ·exact hs.elim
  ·rename_i c hb;obtain ⟨hl,hs⟩:=eN hs;refine Kh hf hb rfl hl (fj (kC c h _ _ (OZ args) F (λc σ F h=>h) hs (r7 args _ 0 _ (λj v hj=> ?_) ⟨λt=>True.intro,λj _=>rfl⟩)) λx E F q=>OT q);simp only [Xm];show args.getD j undef=v;rw [Xx,hj];rfl
theorem sxC {k:Nat} (h:jf) {args:Ξ} {R:ξ->Ψ} {b:Prop} (e:b=sxF P k h args R F) (hb:b):ai P k args.toArray F R:=OU (e▸hb)
theorem Λ {k:Nat} (h:jf) {args:Ξ} {R:ξ->Ψ} {b:Prop} (hb:b) (e:b=sxF P k h args R F:=by kernel_rfl):ai P k args.toArray F R:=sxC h e hb
end
end Go.Proofs.YtcemhghkipgdiaaGreatDoor.Rx
namespace Go.Proofs.YtcemhghkipgdiaaGreatDoor
open Go.IntKind (i64 u8 u64)
open Sl renaming v->Y7,nil->Zi
open Go Go.Proofs.Tryz
section
abbrev Am (b o:Nat):Addr:=Zc b o Y5
abbrev Pp (b:Nat):Value:=.pointer (Y3 (Am b 0))
abbrev vi (n:Int):Value:=.int .i64 n
abbrev Sb (b n:Nat):Sl:=Sl.mk (Y3 (Am b 0)) n n
abbrev zG:Γ:= #[.slice Y5 0 0,.slice Y5 0 0,.int .i64 0,.slice Y5 0 0,.slice Y5 0 0,.slice Y5 0 0,.int .i64 0,.slice Y5 0 0,.slice Y5 0 0]
abbrev zP:Γ:= #[.string ⟨#[]⟩,.int .i64 0,.slice Y5 0 0,.slice Y5 0 0,.int .i64 0,.bool Y6,.int .i64 0,.slice Y5 0 0,.bool Y6,.int .i64 0,.int .i64 0,.int .i64 0,.int .i64 0]
abbrev zT:Γ:= #[.string ⟨#[]⟩,.int .i64 0,.string ⟨#[]⟩,.slice Y5 0 0,.string ⟨#[]⟩,.slice Y5 0 0,.int .i64 0]
abbrev zF:Γ:= #[.int .i64 0,.int .i64 0,.int .i64 0,.int .i64 0,.int .i64 0,.int .i64 0,.slice Y5 0 0,.slice Y5 0 0,.int .i64 0]
abbrev zL:Γ:= #[.slice Y5 0 0,.int .i64 0,.slice Y5 0 0,.int .i64 0]
abbrev zD:Γ:= #[.slice Y5 0 0,.int .i64 0]
section
variable (F:PH) (a:Addr)
abbrev Rr (n:Nat) (a:Addr) (R:VR) (F:PH):Prop:=∃v:Γ,v.size=n/\F.row a v/\R (.agg v) F
abbrev Lr (n:Nat) (a:Addr) (K:Γ->Prop):Prop:=∃v:Γ,v.size=n/\F.row a v/\K v
abbrev Li (K:Int->Prop):Prop:=∃v:Int,F.cell a=Y3 (.int .i64 v)/\K v
abbrev Lk (k:IntKind) (a:Addr) (K:Int->Prop):Prop:=∃v:Int,F.cell a=Y3 (.int k v)/\K v
abbrev Lq (K:Θ->Prop):Prop:=∃v:Θ,F.cell a=Y3 (.pointer v)/\K v
abbrev Ls (K:Sl->Prop):Prop:=∃v:Sl,F.cell a=Y3 (Y7 v)/\K v
abbrev Lb (K:Bool->Prop):Prop:=∃v:Bool,F.cell a=Y3 (.bool v)/\K v
abbrev Lx (K:ByteArray->Prop):Prop:=∃v:ByteArray,F.cell a=Y3 (.string v)/\K v
end
abbrev Ix (s:Sl) (i:Int) (K:Addr->Prop):Prop:=∃a:Addr,s.YZ=Y3 a/\0<=i/\i<(s.len:Int)/\K a
abbrev Fn (f:Value) (K:Nat->Γ->Γ->Prop):Prop:=∃(k:Nat) (fst cap:Γ),f=.func (.func k) fst cap/\aC prog k=Y8/\K k fst cap
section
variable (k:Nat) (ar:Γ) (F:PH)
abbrev Ap (K:Sl->Ψ):Prop:=aF prog (Builtin.append_ #[k,k] k ar) F λv F=>∃x:Sl,v=Y7 x/\K x F
abbrev Ca (K:Γ->Ψ):Prop:=ai prog k ar F λv F=>∃x:Γ,v=.agg x/\K x F
abbrev Ci (K:Ω):Prop:=ai prog k ar F λv F=>∃x:Int,v=.int .i64 x/\K x F
abbrev Cbo (K:Bool->Ψ):Prop:=ai prog k ar F λv F=>∃x:Bool,v=.bool x/\K x F
abbrev Cs (K:Sl->Ψ):Prop:=ai prog k ar F λv F=>∃x:Sl,v=Y7 x/\K x F
abbrev Cu (K:Ψ):Prop:=ai prog k ar F λv F=>v=Value.tuple #[]/\K F
end
abbrev Nb (F:PH) (o:Obj) (K:Nat->Ψ):Prop:=∀b,F b=Y5->atF (F.set b o) (K b)
abbrev Bc (c A B:Prop):Prop:=(c->A)/\(¬c->B)
abbrev Bb (c:Bool) (A B:Prop):Prop:=(c=Y8->A)/\(c=Y6->B)
abbrev Lp {α:Type} (x:α) (F:PH) (B:(α->Ψ)->α->Ψ):Prop:=∃(I:Nat->α->Ψ) (m:Nat),I m x F/\∀m x F,I m x F->B (λy F=>∃m',m'<m/\I m' y F) x F
variable {R:VR} {F:PH}
set_option maxHeartbeats 4000000
def S9 (a:Bool) (R:VR) (F:PH):Prop:=Nb F (Y4 zD 31) λb F=>Bb (a) (au F (Am b 0) 2 (#[.slice Y5 0 0,(vi 1)]:Γ) λF=>Rr 2 (Am b 0) R F) (au F (Am b 0) 2 zD λF=>Rr 2 (Am b 0) R F)
abbrev ν:=ai prog
theorem Wo {a:Bool} (h:S9 a R F):ν 27 #[.bool a] F R:=Rx.Λ .N h
def Ta (d e:Γ) (R:VR) (F:PH):Prop:=Nb F (Y4 d 31) λi F=>Nb F (Y4 e 31) λj F=>Nb F (Y4 zD 31) λh F=>Lr F 2 (Am i 0) λf=>Lr F 2 (Am j 0) λg=>ν 77 #[.agg f,.agg g,.func (.func 78) #[] #[]] F λv F=>∃c,∃a,v=(.tuple #[.agg c,(vi a)])/\au F (Am h 0) 2 c λF=>Lr F 2 (Am h 0) λb=>R (.tuple #[.agg b,(vi a)]) F
theorem Wp {a:Γ} {b:Γ} (h:Ta a b R F):ν 28 #[.agg a,.agg b] F R:=Rx.Λ .N h
def Tb (d e:Γ) (R:VR) (F:PH):Prop:=Nb F (Y4 d 31) λh F=>Nb F (Y4 e 31) λi F=>Li F (Am h 1) λf=>Li F (Am i 1) λg=>Bc (f=g) (Ls F (Am h 0) λa=>Ls F (Am i 0) λb=>Cbo 79 #[Y7 a,Y7 b] F λc F=>R (.bool c) F) (R (.bool Y6) F)
theorem Wq {a:Γ} {b:Γ} (h:Tb a b R F):ν 31 #[.agg a,.agg b] F R:=Rx.Λ .N h
def Tc (d e:Γ) (R:VR) (F:PH):Prop:=Nb F (Y4 d 31) λi F=>Nb F (Y4 e 31) λj F=>Nb F (Y4 zD 31) λh F=>Lr F 2 (Am i 0) λf=>Lr F 2 (Am j 0) λg=>ν 77 #[.agg f,.agg g,.func (.func 87) #[] #[]] F λv F=>∃c,∃a,v=(.tuple #[.agg c,(vi a)])/\au F (Am h 0) 2 c λF=>Lr F 2 (Am h 0) λb=>R (.tuple #[.agg b,(vi a)]) F
theorem Wr {a:Γ} {b:Γ} (h:Tc a b R F):ν 35 #[.agg a,.agg b] F R:=Rx.Λ .N h
def Td (m n:Γ) (c:ξ) (R:VR) (F:PH):Prop:=Nb F (Y4 m 31) λp F=>Nb F (Y4 n 31) λq F=>c.cells= #[c]/\Nb F (Y4 #[c] 121) λr F=>Nb F (Y4 zD 31) λl F=>Lr F 2 (Am p 0) λj=>Lr F 2 (Am q 0) λe=>j.size=2/\e.size=2/\Nb F (Y4 (wr (wr zL 0 j.toList) 2 e.toList) 31) λo F=>Ci 95 #[Y7 (Sb o 2)] F λf F=>Bc (f≠0) (au F (Am l 0) 2 zD λF=>Lr F 2 (Am l 0) λd=>R (.tuple #[.agg d,(vi f)]) F) (Lr F 2 (Am p 0) λg=>Lr F 2 (Am q 0) λh=>g.size=2/\h.size=2/\zD.size=2/\Ca 127 #[.agg (wr (wr (wr (#[.slice Y5 0 0,vi 0,.slice Y5 0 0,vi 0,.slice Y5 0 0,vi 0]:Γ) 0 g.toList) 2 h.toList) 4 zD.toList),.func (.func 128) #[] #[(Pp r)]] F λk F=>ν 126 #[.agg k] F λv F=>∃i,∃a,v=(.tuple #[.agg i,(vi a)])/\au F (Am l 0) 2 i λF=>Lr F 2 (Am l 0) λb=>R (.tuple #[.agg b,(vi a)]) F)
theorem Ws {b:Γ} {c:Γ} {a:ξ} (h:Td b c a R F):ν 77 #[.agg b,.agg c,a] F R:=Rx.Λ .N h
def Te (a b:Bool) (R:VR) (F:PH):Prop:=Bb (a) (R (.bool Y8) F) (R (.bool b) F)
theorem Wt {a:Bool} {b:Bool} (h:Te a b R F):ν 78 #[.bool a,.bool b] F R:=Rx.Λ .N h
def Tf (a b:Bool) (R:VR) (F:PH):Prop:=Bb (a) (R (.bool b) F) (R (.bool Y6) F)
theorem Wu {a:Bool} {b:Bool} (h:Tf a b R F):ν 87 #[.bool a,.bool b] F R:=Rx.Λ .N h
def Ha (R:VR) (F:PH):Prop:=R (vi 0) F
def Hb (h:Ω) (c:Sl) (R:VR) (a:Int) (F:PH):Prop:=Bc (a<(c.len:Int)) (Ix c a λd=>Lr F 2 (Zb d (Zd a*2)) λe=>Nb F (Y4 zD 31) λg F=>au F (Am g 0) 2 e λF=>Lr F 2 (Am g 0) λf=>Ci 100 #[.agg f] F λb F=>Bc (b≠0) (R (vi b) F) (h (i64.wrap (a+1)) F)) (Ha R F)
def Th (a:Sl) (R:VR) (F:PH):Prop:=Lp 0 F λN b F=>Hb N a R b F
theorem Wv {a:Sl} (h:Th a R F):ν 95 #[Y7 a] F R:=Rx.Λ (.Y2 (.J Y6 [] (.Y2 (.L [(8,.int .i64)] .N)) .N)) h
def CC (f:Nat) (R:VR) (F:PH):Prop:=Li F (Am f 1) λg=>Bc (g<0) (R (vi 20) F) (Li F (Am f 1) λh=>Ls F (Am f 0) λi=>Bc ((i64.wrap ((i.len:Int)+1))<h) (R (vi 20) F) (Ls F (Am f 0) λj=>Nb F (Y4 (#[Y7 j,.map Y5]:Γ) 199) λk F=>Li F (Am f 1) λa=>Ca 159 #[(Pp k),(vi a)] F λb F=>Nb F (Y4 zD 31) λl F=>au F (Am l 0) 2 b λF=>Lr F 2 (Am l 0) λc=>Lr F 2 (Am f 0) λd=>Cbo 31 #[.agg c,.agg d] F λe F=>Bb ((!e)) (R (vi 20) F) (R (vi 0) F)))
def CD (A:Ω) (z g:Nat) (d:Sl) (R:VR) (a:Int) (F:PH):Prop:=Bc (a<(d.len:Int)) (Ix d a λh=>Lr F 3 (Zb h (Zd a*3)) λi=>Nb F (Y4 (#[vi 0,vi 0,vi 0]) 124) λb F=>au F (Am b 0) 3 i λF=>Li F (Am b 0) λj=>Bc (j<0) (R (vi 20) F) (Li F (Am b 0) λk=>Bc (63<k) (R (vi 20) F) (Li F (Am b 1) λl=>Bc (l<0) (R (vi 20) F) (Li F (Am b 2) λm=>Bc (m<0) (R (vi 20) F) (Li F (Am b 1) λn=>Bc ((i64.wrap (a+1))<n) (R (vi 20) F) (Li F (Am b 2) λo=>Bc ((i64.wrap (a+1))<o) (R (vi 20) F) (Li F (Am b 1) λp=>Li F (Am b 2) λq=>Bc (p=q) (R (vi 20) F) (Lr F 3 (Am b 0) λr=>∃e,rdo prog (Instr.lookup 195 (.map (Y3 g)) (.agg r) Y6) F (.bool e)/\Bb (e) (R (vi 20) F) (Lr F 2 (Am z 0) λs=>Li F (Am b 1) λt=>Li F (Am b 0) λc=>Ci 155 #[.agg s,(vi t)] F λu F=>F.cell (Am b 0)=Y3 (vi c)/\Bc (u<=c) (R (vi 20) F) (Lr F 2 (Am z 0) λv=>Li F (Am b 2) λw=>Li F (Am b 0) λf=>Ci 155 #[.agg v,(vi w)] F λx F=>F.cell (Am b 0)=Y3 (vi f)/\F.cell (Am b 0)=Y3 (vi c)/\Bc (x<=f) (R (vi 20) F) (Lr F 3 (Am b 0) λy=>aF prog (Instr.mapUpdate 195 (.map (Y3 g)) (.agg y) (.bool Y8)) F λ_ F=>A (i64.wrap (a+1)) F))))))))))) (CC z R F)
def MS (c:Γ) (R:VR) (F:PH):Prop:=Nb F (Y4 c 31) λd F=>Ls F (Am d 0) λe=>Bc ((4096:Int)<(e.len:Int)) (R (vi 2) F) (Nb F (.map #[] 0) λf F=>Ls F (Am d 0) λa=>Lp 0 F λN b F=>CD N d f a R b F)
theorem Tj {a:Γ} (h:MS a R F):ν 100 #[.agg a] F R:=Rx.Λ (.Y2 (.Y2 (.Y2 (.J Y6 [] (.Y2 (.L [(15,.int .i64)] .N)) .N)))) h
def MT (d:Γ) (R:VR) (F:PH):Prop:=Nb F (Y4 d 31) λg F=>Nb F (Y4 zD 31) λc F=>Ls F (Am g 0) λe=>Bc ((4096:Int)<(e.len:Int)) (au F (Am c 0) 2 zD λF=>Lr F 2 (Am c 0) λb=>R (.tuple #[.agg b,(vi 2)]) F) (Lr F 2 (Am g 0) λf=>au F (Am c 0) 2 f λF=>Lr F 2 (Am c 0) λa=>R (.tuple #[.agg a,(vi 0)]) F)
theorem Tm {a:Γ} (h:MT a R F):ν 126 #[.agg a] F R:=Rx.Λ .N h
def MU (n:Γ) (d:ξ) (R:VR) (F:PH):Prop:=Nb F (Y4 n 169) λe F=>d.cells= #[d]/\Nb F (Y4 #[d] 170) λs F=>Nb F (Y4 zD 31) λq F=>ν 172 #[] F λv F=>∃k,v=(.pointer k)/\Nb F (Y4 (#[.pointer Y5]) 196) λm F=>sto F (Am m 0) (.pointer k) λF=>Nb F (.map #[] 0) λt F=>Nb F (Y4 (#[.map Y5]) 213) λr F=>sto F (Am r 0) (.map (Y3 t)) λF=>Nb F (Y4 (#[.nilFunc]) 214) λo F=>sto F (Am o 0) (.func (.func 173) #[] #[(Pp s),(Pp r),(Pp e),(Pp o),(Pp m)]) λF=>Lq F (Am m 0) λf=>∃g:ξ,F.cell (Am o 0)=Y3 g/\0<=(0:Int)/\(0:Int)<3/\∃a,F.cell (Zb (Zb (Am e 0) (Zd 0*2)) 1)=Y3 (vi a)/\0<=(1:Int)/\(1:Int)<3/\∃b,F.cell (Zb (Zb (Am e 0) (Zd 1*2)) 1)=Y3 (vi b)/\0<=(2:Int)/\(2:Int)<3/\∃c,F.cell (Zb (Zb (Am e 0) (Zd 2*2)) 1)=Y3 (vi c)/\Fn g λp i j=>ai prog p (i++([(Value.agg (#[(vi a),(vi b),(vi c)]:Γ))]).toArray++j) F λv F=>∃h,v=(vi h)/\F.cell (Zb (Zb (Am e 0) (Zd 2*2)) 1)=Y3 (vi c)/\F.cell (Zb (Zb (Am e 0) (Zd 1*2)) 1)=Y3 (vi b)/\F.cell (Zb (Zb (Am e 0) (Zd 0*2)) 1)=Y3 (vi a)/\F.cell (Am m 0)=Y3 (.pointer f)/\Ca 159 #[.pointer f,(vi h)] F λl F=>F.cell (Zb (Zb (Am e 0) (Zd 2*2)) 1)=Y3 (vi c)/\F.cell (Zb (Zb (Am e 0) (Zd 1*2)) 1)=Y3 (vi b)/\F.cell (Zb (Zb (Am e 0) (Zd 0*2)) 1)=Y3 (vi a)/\au F (Am q 0) 2 l λF=>Rr 2 (Am q 0) R F
theorem Tn {b:Γ} {a:ξ} (h:MU b a R F):ν 127 #[.agg b,a] F R:=Rx.Λ .N h
def MV (f g _:Bool) (h:Θ) (R:VR) (F:PH):Prop:=∃a,h=Y3 a/\∃e:ξ,F.cell a=Y3 e/\Fn e λi c d=>ai prog i (c++([(Value.bool f),(Value.bool g)]).toArray++d) F λv F=>∃b,v=(Value.bool b)/\R (.bool b) F
theorem To {a:Bool} {b:Bool} {c:Bool} {d:Θ} (h:MV a b c d R F):ν 128 #[.bool a,.bool b,.bool c,.pointer d] F R:=Rx.Λ .N h
def MW (d:Γ) (b:Int) (R:VR) (F:PH):Prop:=Nb F (Y4 d 31) λf F=>Bc (b<2) (R (vi 64) F) (Ls F (Am f 0) λe=>Ix e (i64.wrap (b - 2)) λc=>∃a,F.cell (Zb c (Zd (i64.wrap (b - 2))*3))=Y3 (vi a)/\R (vi a) F)
theorem Tp {a:Γ} {b:Int} (h:MW a b R F):ν 155 #[.agg a,(vi b)] F R:=Rx.Λ .N h
def MX (i:Γ) (a j:Int) (R:VR) (F:PH):Prop:=Nb F (Y4 i 31) λk F=>Lr F 2 (Am k 0) λl=>Ci 155 #[.agg l,(vi a)] F λd F=>Bc (d≠j) (R (.tuple #[(vi a),(vi a)]) F) (Ls F (Am k 0) λe=>Ix e (i64.wrap (a - 2)) λf=>∃b,F.cell (Zb (Zb f (Zd (i64.wrap (a - 2))*3)) 1)=Y3 (vi b)/\Ls F (Am k 0) λg=>Ix g (i64.wrap (a - 2)) λh=>∃c,F.cell (Zb (Zb h (Zd (i64.wrap (a - 2))*3)) 2)=Y3 (vi c)/\R (.tuple #[(vi b),(vi c)]) F)
theorem Tq {a:Γ} {b:Int} {c:Int} (h:MX a b c R F):ν 156 #[.agg a,(vi b),(vi c)] F R:=Rx.Λ .N h
def MY (h:Θ) (a:Int) (R:VR) (F:PH):Prop:=Nb F (Y4 #[.pointer h] 196) λn F=>Nb F (Y4 zD 31) λl F=>Nb F (Y4 zD 31) λg F=>au F (Am g 0) 2 zD λF=>Nb F (.map #[] 0) λi F=>aF prog (Instr.mapUpdate 238 (.map (Y3 i)) (vi 0) (vi 0)) F λ_ F=>aF prog (Instr.mapUpdate 238 (.map (Y3 i)) (vi 1) (vi 1)) F λ_ F=>Nb F (Y4 (#[.map Y5]) 238) λm F=>sto F (Am m 0) (.map (Y3 i)) λF=>Nb F (Y4 (#[.nilFunc]) 225) λj F=>sto F (Am j 0) (.func (.func 190) #[] #[(Pp m),(Pp n),(Pp j),(Pp g)]) λF=>∃b:ξ,F.cell (Am j 0)=Y3 b/\Fn b λk d e=>ai prog k (d++([(vi a)]).toArray++e) F λv F=>∃c,v=(vi c)/\sto F (Am g 1) (vi c) λF=>Lr F 2 (Am g 0) λf=>au F (Am l 0) 2 f λF=>Rr 2 (Am l 0) R F
theorem Ts {b:Θ} {a:Int} (h:MY b a R F):ν 159 #[.pointer b,(vi a)] F R:=Rx.Λ .N h
def MZ (R:VR) (F:PH):Prop:=Nb F (.map #[] 0) λa F=>Nb F (Y4 (#[.slice Y5 0 0,.map (Y3 a)]:Γ) 199) λb F=>R (Pp b) F
theorem Tt (h:MZ R F):ν 172 #[] F R:=Rx.Λ .N h
def CE (n:Addr) (u w:Θ) (B:Nat) (o p q:Int) (x y:Nat) (R:VR) (F:PH):Prop:=∃a,u=Y3 a/\∃c:ξ,F.cell a=Y3 c/\Lr F 3 (Am x 0) λr=>Fn c λz j k=>ai prog z (j++([(Value.agg r)]).toArray++k) F λv F=>∃d,v=(vi d)/\∃b,w=Y3 b/\Lq F b λe=>∃f:ξ,F.cell a=Y3 f/\Lr F 3 (Am y 0) λs=>Fn f λA l m=>ai prog A (l++([(Value.agg s)]).toArray++m) F λv F=>∃g,v=(vi g)/\F.cell b=Y3 (.pointer e)/\Ci 174 #[.pointer e,(vi (min (min o p) q)),(vi d),(vi g)] F λh F=>∃i:Option Nat,F.cell n=Y3 (.map i)/\Lr F 3 (Am B 0) λt=>aF prog (Instr.mapUpdate 213 (.map i) (.agg t) (vi h)) F λ_ F=>R (vi h) F
def CF (p:Ω) (g h:Addr) (m n:Θ) (o:Nat) (c d e:Int) (i j:Nat) (R:VR) (a:Int) (F:PH):Prop:=Bc (a<3) (0<=a/\a<3/\Lr F 2 (Zb h (Zd a*2)) λk=>0<=a/\a<3/\Li F (Zb (Am o 0) (Zd a*1)) λl=>ν 156 #[.agg k,(vi l),(vi (min (min c d) e))] F λv F=>∃f,∃b,v=(.tuple #[(vi f),(vi b)])/\0<=a/\a<3/\sto F (Zb (Am i 0) (Zd a*1)) (vi f) λF=>0<=a/\a<3/\sto F (Zb (Am j 0) (Zd a*1)) (vi b) λF=>p (i64.wrap (a+1)) F) (CE g m n o c d e i j R F)
def gA (B C D E G:Θ) (b:Nat) (p:Bool) (R:VR) (F:PH):Prop:=Bb (p) (∃g,B=Y3 g/\∃h:ξ,F.cell g=Y3 h/\0<=(0:Int)/\(0:Int)<3/\Li F (Zb (Am b 0) (Zd 0*1)) λq=>0<=(1:Int)/\(1:Int)<3/\Li F (Zb (Am b 0) (Zd 1*1)) λr=>0<=(2:Int)/\(2:Int)<3/\Li F (Zb (Am b 0) (Zd 2*1)) λs=>Fn h λH n o=>ai prog H (n++([(Value.bool (decide (q=1))),(Value.bool (decide (r=1))),(Value.bool (decide (s=1)))]).toArray++o) F λv F=>∃i,v=(Value.bool i)/\Bb (i) (R (vi 1) F) (R (vi 0) F)) (∃c,C=Y3 c/\∃j:Option Nat,F.cell c=Y3 (.map j)/\Lr F 3 (Am b 0) λt=>∃(k:Int) (d:Bool),rdo prog (Instr.lookup 213 (.map j) (.agg t) Y8) F (.tuple #[(vi k),.bool d])/\Bb (d) (R (vi k) F) (∃a,D=Y3 a/\0<=(0:Int)/\(0:Int)<3/\Lr F 2 (Zb a (Zd 0*2)) λu=>0<=(0:Int)/\(0:Int)<3/\Li F (Zb (Am b 0) (Zd 0*1)) λw=>0<=(1:Int)/\(1:Int)<3/\Lr F 2 (Zb a (Zd 1*2)) λl=>0<=(1:Int)/\(1:Int)<3/\Li F (Zb (Am b 0) (Zd 1*1)) λm=>0<=(2:Int)/\(2:Int)<3/\Lr F 2 (Zb a (Zd 2*2)) λe=>0<=(2:Int)/\(2:Int)<3/\Li F (Zb (Am b 0) (Zd 2*1)) λf=>Ci 155 #[.agg u,(vi w)] F λx F=>F.cell (Zb (Am b 0) (Zd 2*1))=Y3 (vi f)/\F.row (Zb a (Zd 2*2)) e/\F.cell (Zb (Am b 0) (Zd 1*1))=Y3 (vi m)/\F.row (Zb a (Zd 1*2)) l/\Ci 155 #[.agg l,(vi m)] F λy F=>F.cell (Zb (Am b 0) (Zd 2*1))=Y3 (vi f)/\F.row (Zb a (Zd 2*2)) e/\Ci 155 #[.agg e,(vi f)] F λz F=>Nb F (Y4 (#[vi 0,vi 0,vi 0]) 215) λI F=>Nb F (Y4 (#[vi 0,vi 0,vi 0]) 215) λJ F=>Lp 0 F λN A F=>CF N c a E G b x y z I J R A F))
def M0 (j:Γ) (a b c d e:Θ) (R:VR) (F:PH):Prop:=Nb F (Y4 j 215) λf F=>0<=(0:Int)/\(0:Int)<3/\Li F (Zb (Am f 0) (Zd 0*1)) λg=>Bc (g<2) (0<=(1:Int)/\(1:Int)<3/\Li F (Zb (Am f 0) (Zd 1*1)) λh=>Bc (h<2) (0<=(2:Int)/\(2:Int)<3/\Li F (Zb (Am f 0) (Zd 2*1)) λi=>gA a b c d e f (decide (i<2)) R F) (gA a b c d e f Y6 R F)) (gA a b c d e f Y6 R F)
theorem Tu {a:Γ} {b:Θ} {c:Θ} {d:Θ} {e:Θ} {f:Θ} (h:M0 a b c d e f R F):ν 173 #[.agg a,.pointer b,.pointer c,.pointer d,.pointer e,.pointer f] F R:=Rx.Λ (.Y2 (.T (.J Y6 [(28,.bool)] .N .N) (.Y2 (.Y2 (.Y2 (.J Y6 [] (.Y2 (.L [(64,.int .i64)] .N)) .N)))))) h
def M1 (o:Θ) (p b c:Int) (R:VR) (F:PH):Prop:=Bc (b=c) (R (vi b) F) (Nb F (Y4 (#[vi 0,vi 0,vi 0]) 124) λn F=>au F (Am n 0) 3 (#[(vi p),(vi b),(vi c)]:Γ) λF=>∃a,o=Y3 a/\∃e:Option Nat,F.cell (Zb a 1)=Y3 (.map e)/\Lr F 3 (Am n 0) λj=>∃(f:Int) (d:Bool),rdo prog (Instr.lookup 197 (.map e) (.agg j) Y8) F (.tuple #[(vi f),.bool d])/\Bb ((!d)) (Ls F a λk=>Lr F 3 (Am n 0) λg=>g.size=3/\Nb F (Y4 g 124) λq F=>Ap 29 #[Y7 k,Y7 (Sb q 1)] F λl F=>sto F a (Y7 l) λF=>Ls F a λh=>∃i:Option Nat,F.cell (Zb a 1)=Y3 (.map i)/\Lr F 3 (Am n 0) λm=>aF prog (Instr.mapUpdate 197 (.map i) (.agg m) (vi (i64.wrap ((h.len:Int)+1)))) F λ_ F=>R (vi (i64.wrap ((h.len:Int)+1))) F) (R (vi f) F))
theorem Tv {c:Θ} {d:Int} {b:Int} {a:Int} (h:M1 c d b a R F):ν 174 #[.pointer c,(vi d),(vi b),(vi a)] F R:=Rx.Λ .N h
def Hc (c:Int) (H I J K:Θ) (R:VR) (F:PH):Prop:=∃a,H=Y3 a/\∃j:Option Nat,F.cell a=Y3 (.map j)/\∃(k:Int) (d:Bool),rdo prog (Instr.lookup 238 (.map j) (vi c) Y8) F (.tuple #[(vi k),.bool d])/\Bb (d) (R (vi k) F) (∃l,I=Y3 l/\Lq F l λx=>∃e,x=Y3 e/\Ls F e λy=>Ix y (i64.wrap (c - 2)) λz=>∃f,f.size=3/\F.row (Zb z (Zd (i64.wrap (c - 2))*3)) f/\Nb F (Y4 (#[vi 0,vi 0,vi 0]) 124) λG F=>au F (Am G 0) 3 f λF=>∃g,J=Y3 g/\∃m:ξ,F.cell g=Y3 m/\Li F (Am G 1) λA=>Fn m λL s t=>ai prog L (s++([(vi A)]).toArray++t) F λv F=>∃h,v=(vi h)/\∃n:ξ,F.cell g=Y3 n/\Li F (Am G 2) λB=>Fn n λM u w=>ai prog M (u++([(vi B)]).toArray++w) F λv F=>∃i,v=(vi i)/\∃b,K=Y3 b/\Ls F b λC=>Li F (Am G 0) λo=>(#[(vi o),(vi h),(vi i)]:Γ).size=3/\Nb F (Y4 (#[(vi o),(vi h),(vi i)]:Γ) 124) λN F=>Ap 29 #[Y7 C,Y7 (Sb N 1)] F λD F=>sto F b (Y7 D) λF=>∃p:Option Nat,F.cell a=Y3 (.map p)/\Ls F b λE=>aF prog (Instr.mapUpdate 238 (.map p) (vi c) (vi (i64.wrap ((E.len:Int)+1)))) F λ_ F=>∃q:Option Nat,F.cell a=Y3 (.map q)/\∃r,rdo prog (Instr.lookup 238 (.map q) (vi c) Y6) F (vi r)/\R (vi r) F)
theorem M2 {a:Int} {b:Θ} {c:Θ} {d:Θ} {e:Θ} (h:Hc a b c d e R F):ν 190 #[(vi a),.pointer b,.pointer c,.pointer d,.pointer e] F R:=Rx.Λ .N h
variable {R:VR} {F:PH}
set_option maxHeartbeats 4000000
def OV (R:VR) (F:PH):Prop:=R (.bool Y8) F
def Hd (i:Ω) (b d:Sl) (R:VR) (a:Int) (F:PH):Prop:=Bc (a<(b.len:Int)) (Ix b a λe=>Lr F 3 (Zb e (Zd a*3)) λf=>Ix d a λg=>Lr F 3 (Zb g (Zd a*3)) λh=>∃c,(∀F,rdo prog (Op.equal 124 (.agg f) (.agg h)) F c)/\Bb ((!c)) (R (.bool Y6) F) (i (i64.wrap (a+1)) F)) (OV R F)
def Tw (a b:Sl) (R:VR) (F:PH):Prop:=Bc ((a.len:Int)≠(b.len:Int)) (R (.bool Y6) F) (Lp 0 F λN c F=>Hd N a b R c F)
theorem Ww {a:Sl} {b:Sl} (h:Tw a b R F):ν 79 #[Y7 a,Y7 b] F R:=Rx.Λ (.Y2 (.Y2 (.J Y6 [] (.Y2 (.L [(13,.int .i64)] .N)) .N))) h
def M3 (a:Sl) (b:ξ) (R:VR) (F:PH):Prop:=Ci 178 #[Y7 a,b] F λc F=>R (.bool (decide (0<=c))) F
theorem Tx {a:Sl} {b:ξ} (h:M3 a b R F):ν 139 #[Y7 a,b] F R:=Rx.Λ .N h
def M4 (a:Sl) (b:ξ) (R:VR) (F:PH):Prop:=Ci 187 #[Y7 a,b] F λc F=>R (.bool (decide (0<=c))) F
theorem Ty {a:Sl} {b:ξ} (h:M4 a b R F):ν 148 #[Y7 a,b] F R:=Rx.Λ .N h
def J0 (R:VR) (F:PH):Prop:=R (vi (-1:Int)) F
def J1 (j:Ω) (e:Sl) (h:ξ) (R:VR) (a:Int) (F:PH):Prop:=Bc (a<(e.len:Int)) (Ix e a λf=>Lr F 13 (Zb f (Zd a*13)) λg=>Fn h λi c d=>ai prog i (c++([(Value.agg g)]).toArray++d) F λv F=>∃b,v=(Value.bool b)/\Bb (b) (R (vi a) F) (j (i64.wrap (a+1)) F)) (J0 R F)
def Tz (a:Sl) (b:ξ) (R:VR) (F:PH):Prop:=Lp 0 F λN c F=>J1 N a b R c F
theorem TA {a:Sl} {b:ξ} (h:Tz a b R F):ν 178 #[Y7 a,b] F R:=Rx.Λ (.Y2 (.J Y6 [] (.Y2 (.L [(8,.int .i64)] .N)) .N)) h
def M5 (a:Sl) (b:ξ) (R:VR) (F:PH):Prop:=Ci 201 #[Y7 a,b] F λc F=>R (.bool (decide (0<=c))) F
theorem TB {a:Sl} {b:ξ} (h:M5 a b R F):ν 180 #[Y7 a,b] F R:=Rx.Λ .N h
def J2 (R:VR) (F:PH):Prop:=R (vi (-1:Int)) F
def J3 (j:Ω) (e:Sl) (h:ξ) (R:VR) (a:Int) (F:PH):Prop:=Bc (a<(e.len:Int)) (Ix e a λf=>Lr F 2 (Zb f (Zd a*2)) λg=>Fn h λi c d=>ai prog i (c++([(Value.agg g)]).toArray++d) F λv F=>∃b,v=(Value.bool b)/\Bb (b) (R (vi a) F) (j (i64.wrap (a+1)) F)) (J2 R F)
def TC (a:Sl) (b:ξ) (R:VR) (F:PH):Prop:=Lp 0 F λN c F=>J3 N a b R c F
theorem TE {a:Sl} {b:ξ} (h:TC a b R F):ν 187 #[Y7 a,b] F R:=Rx.Λ (.Y2 (.J Y6 [] (.Y2 (.L [(8,.int .i64)] .N)) .N)) h
def J4 (R:VR) (F:PH):Prop:=R (vi (-1:Int)) F
def J5 (j:Ω) (e:Sl) (h:ξ) (R:VR) (a:Int) (F:PH):Prop:=Bc (a<(e.len:Int)) (Ix e a λf=>Lr F 3 (Zb f (Zd a*3)) λg=>Fn h λi c d=>ai prog i (c++([(Value.agg g)]).toArray++d) F λv F=>∃b,v=(Value.bool b)/\Bb (b) (R (vi a) F) (j (i64.wrap (a+1)) F)) (J4 R F)
def TF (a:Sl) (b:ξ) (R:VR) (F:PH):Prop:=Lp 0 F λN c F=>J5 N a b R c F
theorem TG {a:Sl} {b:ξ} (h:TF a b R F):ν 201 #[Y7 a,b] F R:=Rx.Λ (.Y2 (.J Y6 [] (.Y2 (.L [(8,.int .i64)] .N)) .N)) h
end
open Tr
abbrev Fit (n:Nat):Prop:=n<=1000000000000
def dr (b:Br):Ξ:=[vi b.v,vi b.l,vi b.h]
def aW (l:List Br):Ξ:=l.flatMap dr
abbrev aZ (b:Br):Γ:= #[vi b.v,vi b.l,vi b.h]
theorem wD (l:List Br):(aW l).length=l.length*3:=by
 induction l with
 |nil=>rfl
 |cons b l ih=>simp only [aW,XS,Xa,Xl] at ih ⊢;rw [ih];simp [dr];omega
theorem eO (l m:List Br):aW (l++m)=aW l++aW m:=by simp [aW]
theorem ui:∀(l:List Br) (i:Nat) (hi:i<l.length),((aW l).drop (i*3)).take 3=dr l[i]
 |b::l,0,_=>by simp [aW,dr]
 |b::l,i+1,hi=>by
  have e:(i+1)*3=3+i*3:=by omega
  have:aW (b::l)=dr b++aW l:=by simp [aW]
  rw [this,e,<- List.drop_drop,List.drop_left' (by simp [dr])];simpa using ui l i (by simpa using hi)
theorem ii (l:List Br):∀v∈aW l,ak v:=by intro v hv;obtain ⟨b,_,hb⟩:=YC.1 hv;simp only [dr,W6,X6,or_false] at hb;rcases hb with rfl|rfl|rfl<;>exact jD
theorem mz (b:Br):∀v∈(aZ b).toList,ak v:=by intro v hv;simp only [W6,X6,or_false] at hv;rcases hv with rfl|rfl|rfl<;>exact jD
theorem RdS.blen {F:PH} {s:Sl} {l:List Br} (h:RdS F s 3 (aW l)):s.len=l.length:=by have:=h.len;rw [wD] at this;omega
theorem rdb {F:PH} {s:Sl} {l:List Br} (h:RdS F s 3 (aW l)) {i:Nat} {x:Br} (hx:l[i]? =Y3 x):∃a,s.YZ=Y3 a/\F.row (a.add (i*3)) (aZ x)/\
  F.cell (a.add (i*3))=Y3 (vi x.v)/\F.cell ((a.add (i*3)).add 1)=Y3 (vi x.l)/\F.cell ((a.add (i*3)).add 2)=Y3 (vi x.h):=by
 obtain ⟨hi,hx⟩:=N6.1 hx;subst hx;have hlen:=h.blen;obtain ⟨b,o,hb,_⟩:=h.cells (by omega)
 have hr:=h.row hb (i*3) (aZ l[i]) (by
  have:=ui l i hi
  simpa [aZ,dr] using this.symm)
 refine ⟨_,hb,hr,?_,?_,?_⟩
 ·have:=hr 0 (by simp);simpa using this
 ·have:=hr 1 (by simp);simpa using this
 ·have:=hr 2 (by simp);simpa using this
def DV (F:PH) (v:Γ) (d:Dia):Prop:=∃s:Sl,v= #[s.v,vi d.2]/\RdS F s 3 (aW d.1)
theorem DV.le {F G:PH} {v:Γ} {d:Dia} (h:DV F v d) (hl:F.le G):DV G v d:=by obtain ⟨s,h1,h2⟩:=h;exact ⟨s,h1,h2.le hl⟩
theorem DV.size {F:PH} {v:Γ} {d:Dia} (h:DV F v d):v.size=2:=by obtain ⟨s,rfl,_⟩:=h;rfl
theorem DV.st {F:PH} {v:Γ} {d:Dia} (h:DV F v d):∀x∈v.toList,ak x:=by
 obtain ⟨s,rfl,_⟩:=h;intro x hx;simp only [W6,X6,or_false] at hx;rcases hx with rfl|rfl
 ·exact HJ
 ·exact jD
theorem PH.le_rfl {F:PH}:F.le F:=λ_ _ h=>h
theorem gB {S:List Tr} {d:List Br} (hp:brs S<+:d) {k:Nat} {t:Tr} (h:S[k]? =Y3 t):d[k]? =Y3 (br S t):=by obtain ⟨r,rfl⟩:=hp;rw [Xh (by rw [aN];exact (N6.1 h).1)];exact qr h
theorem uj {n:Nat} (h:Fit n) (h2:2<=n):i64.wrap ((n:Int) - 2)=((n - 2:Nat):Int):=by rw [aP (by omega)];omega
section
variable {F:PH} {v:Γ} {d:Dia} {S:List Tr} {t:Tr}
theorem pT (hp:brs S<+:d.1) (ht:inn S t) (hf:Fit (d.1.length+2)):Fit (num S t)/\num S t<=d.1.length+1:=by have h1:=fc ht;have h2:=hp.length_le;rw [aN] at h2;omega
theorem eZ (hd:DV F v d) (hp:brs S<+:d.1) (ht:inn S t) (hf:Fit (d.1.length+2)):
  ν 155 #[.agg v,vi (num S t)] F λr F'=>r=vi t.top/\F.le F':=by
 obtain ⟨hfit,hlt⟩:=pT hp ht hf;obtain ⟨s,rfl,hr⟩:=hd;refine Tp ?_;unfold MW;intro b2 hb2;refine atI ?_;have hle:=ae (Y4 #[s.v,vi d.2] 31) hb2;refine ⟨λh=> ?_,λh=> ?_⟩
 ·have hl:=qp (S:=S) (t:=t) (by omega);cases t with
  |Y0 b=>exact ⟨rfl,hle⟩
  |Y1 _ _ _=>cases hl
 ·cases t with
  |Y0 b=>have:=dF S b;omega
  |Y1 w l r=>have hx:=gB hp (fX (cP ht rfl) rfl);obtain ⟨a,h1,_,h2,_⟩:=rdb (hr.le hle) hx;have hw:=uj hfit (eB (S:=S) (t:=Y1 w l r) rfl);have hg:=eB (S:=S) (t:=Y1 w l r) rfl;refine ⟨s,by simp,a,h1,by rw [hw];omega,by rw [hw,hr.blen];omega,_,by rw [hw];exact h2,rfl,hle⟩
theorem At (hd:DV F v d) (hp:brs S<+:d.1) (ht:inn S t) (hf:Fit (d.1.length+2)) {w:Nat} (hw:w<64):
  ν 156 #[.agg v,vi (num S t),vi w] F λr F'=>r=.tuple #[vi (num S (lo w t)),vi (num S (hi w t))]/\F.le F':=by
 obtain ⟨hfit,hlt⟩:=pT hp ht hf;have hd':=hd;obtain ⟨s,rfl,hr⟩:=hd;refine Tq ?_;unfold MX;intro b3 hb3;refine atI ?_;have hle:=ae (Y4 #[s.v,vi d.2] 31) hb3;refine ⟨_,rfl,ac (al _ _ _),?_⟩;refine (eZ (hd'.le hle) hp ht hf).mono ?_;rintro _ F2 ⟨rfl,hle2⟩;have hc:F2 b3=Y3 _:=hle2 _ _ (al _ _ _);have hle':F.le F2:=λb o h=>hle2 b o (hle b o h);refine ⟨_,rfl,λh=> ?_,λh=> ?_⟩
 ·refine ⟨?_,hle'⟩;cases t with
  |Y0 b=>rfl
  |Y1 w' l r=>have:¬w'=w:=λe=>h (by simp [Tr.top,e]);simp [lo,hi,this]
 ·cases t with
  |Y0 b=>simp only [Tr.top] at h;omega
  |Y1 w' l r=>
   have e:w'=w:=by simp only [Tr.top] at h;omega
   subst e;have hx:=gB hp (fX (cP ht rfl) rfl);obtain ⟨a,h1,_,_,h3,h4⟩:=rdb (hr.le hle') hx;have hw:=uj hfit (eB (S:=S) (t:=Y1 w' l r) rfl);have hg:=eB (S:=S) (t:=Y1 w' l r) rfl
   refine ⟨s,by rw [aq hc];rfl,a,h1,by rw [hw];omega,by rw [hw,hr.blen];omega,_,by rw [hw];exact h3,
    s,by rw [aq hc];rfl,a,h1,by rw [hw];omega,by rw [hw,hr.blen];omega,_,by rw [hw];exact h4,?_,hle'⟩
   simp [lo,hi,br]
end
inductive Pat where
 |emp:Pat
 |rng:Nat->Nat->Pat
 |seq:Pat->Pat->Pat
 |alt:Pat->Pat->Pat
 |rep:Pat->Pat
deriving DecidableEq
inductive km (P:Δ->Prop):Δ->Prop where
 |nil:km P []
 |cons {u v:Δ}:P u->km P v->km P (u++v)
def Lg:Pat->Δ->Prop
 | .emp,w=>w=[]
 | .rng lo hi,w=>∃b,w=[b]/\lo<=b/\b<=hi
 | .seq x y,w=>∃u v,w=u++v/\Lg x u/\Lg y v
 | .alt x y,w=>Lg x w\/Lg y w
 | .rep x,w=>km (Lg x) w
inductive Lt where
 |emp:Lt
 |rng:Nat->Nat->Nat->Lt
 |seq:Lt->Lt->Lt
 |alt:Lt->Lt->Lt
 |rep:Lt->Lt
namespace Lt
def pat:Lt->Pat
 |emp=> .emp
 |rng _ lo hi=> .rng lo hi
 |seq x y=> .seq x.pat y.pat
 |alt x y=> .alt x.pat y.pat
 |rep x=> .rep x.pat
def nul:Lt->Bool
 |emp=>Y8
 |rng _ _ _=>Y6
 |seq x y=>x.nul && y.nul
 |alt x y=>x.nul || y.nul
 |rep _=>Y8
def first:Lt->Nat->Prop
 |emp,_=>False
 |rng i _ _,j=>i=j
 |seq x y,j=>x.first j\/(x.nul=Y8/\y.first j)
 |alt x y,j=>x.first j\/y.first j
 |rep x,j=>x.first j
def last:Lt->Nat->Prop
 |emp,_=>False
 |rng i _ _,j=>i=j
 |seq x y,j=>y.last j\/(y.nul=Y8/\x.last j)
 |alt x y,j=>x.last j\/y.last j
 |rep x,j=>x.last j
def fol:Lt->Nat->Nat->Prop
 |emp,_,_=>False
 |rng _ _ _,_,_=>False
 |seq x y,i,j=>x.fol i j\/y.fol i j\/(x.last i/\y.first j)
 |alt x y,i,j=>x.fol i j\/y.fol i j
 |rep x,i,j=>x.fol i j\/(x.last i/\x.first j)
def lab:Lt->Nat->Prop
 |emp,_=>False
 |rng i _ _,j=>i=j
 |seq x y,j=>x.lab j\/y.lab j
 |alt x y,j=>x.lab j\/y.lab j
 |rep x,j=>x.lab j
def fits (acc:Nat->Nat->Prop):Lt->Prop
 |emp=>True
 |rng i lo hi=>∀b,acc i b↔lo<=b/\b<=hi
 |seq x y=>x.fits acc/\y.fits acc/\∀i,x.lab i->¬y.lab i
 |alt x y=>x.fits acc/\y.fits acc/\∀i,x.lab i->¬y.lab i
 |rep x=>x.fits acc
theorem first_lab:∀(t:Lt) {i:Nat},t.first i->t.lab i
 |rng _ _ _,_,h=>h
 |seq x y,_,h=>h.elim (λh=> .inl (x.first_lab h)) λh=> .inr (y.first_lab h.2)
 |alt x y,_,h=>h.elim (λh=> .inl (x.first_lab h)) λh=> .inr (y.first_lab h)
 |rep x,_,h=>x.first_lab h
theorem last_lab:∀(t:Lt) {i:Nat},t.last i->t.lab i
 |rng _ _ _,_,h=>h
 |seq x y,_,h=>h.elim (λh=> .inr (y.last_lab h)) λh=> .inl (x.last_lab h.2)
 |alt x y,_,h=>h.elim (λh=> .inl (x.last_lab h)) λh=> .inr (y.last_lab h)
 |rep x,_,h=>x.last_lab h
theorem fol_lab:∀(t:Lt) {i j:Nat},t.fol i j->t.lab i/\t.lab j
 |seq x y,_,_,h=>by
  rcases h with h|h|⟨h,h'⟩
  ·exact ⟨.inl (x.fol_lab h).1,.inl (x.fol_lab h).2⟩
  ·exact ⟨.inr (y.fol_lab h).1,.inr (y.fol_lab h).2⟩
  ·exact ⟨.inl (x.last_lab h),.inr (y.first_lab h')⟩
 |alt x y,_,_,h=>by
  rcases h with h|h
  ·exact ⟨.inl (x.fol_lab h).1,.inl (x.fol_lab h).2⟩
  ·exact ⟨.inr (y.fol_lab h).1,.inr (y.fol_lab h).2⟩
 |rep x,_,_,h=>by
  rcases h with h|⟨h,h'⟩
  ·exact x.fol_lab h
  ·exact ⟨x.last_lab h,x.first_lab h'⟩
end Lt
def Pth (acc fol:Nat->Nat->Prop) (e:Nat->Prop):Nat->Δ->Prop
 |_,[]=>False
 |i,b::w=>acc i b/\((w=[]/\e i)\/∃j,fol i j/\Pth acc fol e j w)
section
variable {acc fol fol':Nat->Nat->Prop} {e e':Nat->Prop}
theorem Pth.ne {i:Nat} {w:Δ} (h:Pth acc fol e i w):w≠[]:=by rintro rfl;exact h
theorem Pth.mono (hf:∀i j,fol i j->fol' i j) (he:∀i,e i->e' i):∀(w:Δ) (i:Nat),Pth acc fol e i w->Pth acc fol' e' i w
 |[],_,h=>h
 |_::w,_,⟨h,k⟩=>⟨h,k.elim (λk=> .inl ⟨k.1,he _ k.2⟩) λ⟨j,k1,k2⟩=> .inr ⟨j,hf _ _ k1,Pth.mono hf he w j k2⟩⟩
theorem Pth.inside (P:Nat->Prop) (hf:∀i j,P i->fol i j->P j/\fol' i j) (he:∀i,P i->e i->e' i):∀(w:Δ) (i:Nat),P i->Pth acc fol e i w->Pth acc fol' e' i w
 |[],_,_,h=>h
 |_::w,i,hp,⟨h,k⟩=>⟨h,k.elim (λk=> .inl ⟨k.1,he _ hp k.2⟩) λ⟨j,k1,k2⟩=> .inr ⟨j,(hf i j hp k1).2,Pth.inside P hf he w j (hf i j hp k1).1 k2⟩⟩
theorem Pth.link {l g:Nat->Prop}:∀(w:Δ) (i:Nat),Pth acc (λi j=>fol i j\/(l i/\g j)) e i w->
  Pth acc fol e i w\/∃u v j,w=u++v/\Pth acc fol l i u/\g j/\Pth acc (λi j=>fol i j\/(l i/\g j)) e j v
 |[],_,h=>h.elim
 |b::w,i,⟨h,k⟩=>by
  rcases k with ⟨rfl,k⟩|⟨j,k1|⟨k1,k3⟩,k2⟩
  ·exact .inl ⟨h,.inl ⟨rfl,k⟩⟩
  ·rcases Pth.link w j k2 with q|⟨u,v,m,rfl,q1,q2,q3⟩
   ·exact .inl ⟨h,.inr ⟨j,k1,q⟩⟩
   ·exact .inr ⟨b::u,v,m,rfl,⟨h,.inr ⟨j,k1,q1⟩⟩,q2,q3⟩
  ·exact .inr ⟨[b],w,j,rfl,⟨h,.inl ⟨rfl,k1⟩⟩,k3,k2⟩
theorem Pth.append {l g:Nat->Prop} (hf:∀i j,fol i j->fol' i j) (hl:∀i j,l i->g j->fol' i j) {v:Δ} {j:Nat} (hg:g j) (hv:Pth acc fol' e j v):
  ∀(u:Δ) (i:Nat),Pth acc fol l i u->Pth acc fol' e i (u++v)
 |[],_,h=>h.elim
 |b::u,i,⟨h,k⟩=>by
  rcases k with ⟨rfl,k⟩|⟨m,k1,k2⟩
  ·exact ⟨h,.inr ⟨j,hl i j k hg,hv⟩⟩
  ·exact ⟨h,.inr ⟨m,hf _ _ k1,Pth.append hf hl hg hv u m k2⟩⟩
end
namespace Lt
variable {acc:Nat->Nat->Prop}
theorem nul_iff:∀(t:Lt),t.nul=Y8↔Lg t.pat []
 |emp=>⟨λ_=>rfl,λ_=>rfl⟩
 |rng i lo hi=>⟨λh=>(by cases h),λ⟨b,h,_⟩=>(by cases h)⟩
 |seq x y=>by
  have hx:=nul_iff x;have hy:=nul_iff y;simp only [nul,pat,Lg,XJ,hx,hy];constructor
  ·rintro ⟨h1,h2⟩;exact ⟨[],[],rfl,h1,h2⟩
  ·rintro ⟨u,v,h,h1,h2⟩;obtain ⟨rfl,rfl⟩:=List.append_eq_nil_iff.1 h.symm;exact ⟨h1,h2⟩
 |alt x y=>by simp only [nul,pat,Lg,XU,nul_iff x,nul_iff y]
 |rep x=>⟨λ_=>km.nil,λ_=>rfl⟩
theorem places:∀(t:Lt),t.fits acc->∀w,w≠[]->(Lg t.pat w↔∃i,t.first i/\Pth acc t.fol t.last i w)
 |emp,_,w,hw=>⟨λh=>absurd h hw,λ⟨i,h,_⟩=>h.elim⟩
 |rng i lo hi,hf,w,hw=>by
  constructor
  ·rintro ⟨b,rfl,h⟩;exact ⟨i,rfl,(hf b).2 h,.inl ⟨rfl,rfl⟩⟩
  ·rintro ⟨j,rfl,h⟩;cases w with
   |nil=>exact h.elim
   |cons b w=>
    obtain ⟨h1,⟨rfl,_⟩|⟨j,h2,_⟩⟩:=h
    ·exact ⟨b,rfl,(hf b).1 h1⟩
    ·exact h2.elim
 |alt x y,⟨fx,fy,hd⟩,w,hw=>by
  have ix:=places x fx w hw;have iy:=places y fy w hw;constructor
  ·rintro (h|h)
   ·obtain ⟨i,h1,h2⟩:=ix.1 h;exact ⟨i,.inl h1,h2.mono (λ_ _ h=> .inl h) (λ_ h=> .inl h) w i⟩
   ·obtain ⟨i,h1,h2⟩:=iy.1 h;exact ⟨i,.inr h1,h2.mono (λ_ _ h=> .inr h) (λ_ h=> .inr h) w i⟩
  ·rintro ⟨i,h1|h1,h2⟩
   ·refine .inl (ix.2 ⟨i,h1,h2.inside x.lab (λi j hp h=> ?_) (λi hp h=> ?_) w i (x.first_lab h1)⟩)
    ·exact h.elim (λh=>⟨(x.fol_lab h).2,h⟩) λh=>absurd (y.fol_lab h).1 (hd i hp)
    ·exact h.elim id λh=>absurd (y.last_lab h) (hd i hp)
   ·refine .inr (iy.2 ⟨i,h1,h2.inside y.lab (λi j hp h=> ?_) (λi hp h=> ?_) w i (y.first_lab h1)⟩)
    ·exact h.elim (λh=>absurd hp (hd i (x.fol_lab h).1)) λh=>⟨(y.fol_lab h).2,h⟩
    ·exact h.elim (λh=>absurd hp (hd i (x.last_lab h))) id
 |seq x y,⟨fx,fy,hd⟩,w,hw=>by
  have ix:=places x fx;have iy:=places y fy
  have inY:∀w i,y.lab i->Pth acc (seq x y).fol (seq x y).last i w->Pth acc y.fol y.last i w:=λw i hi h=>h.inside y.lab (λi j hp h=>by
    rcases h with h|h|⟨h,_⟩
    ·exact absurd hp (hd i (x.fol_lab h).1)
    ·exact ⟨(y.fol_lab h).2,h⟩
    ·exact absurd hp (hd i (x.last_lab h))) (λi hp h=>h.elim id λh=>absurd hp (hd i (x.last_lab h.2))) w i hi
  constructor
  ·rintro ⟨u,v,rfl,hu,hv⟩;by_cases hu0:u=[]
   ·subst hu0;obtain ⟨i,h1,h2⟩:=(iy _ hw).1 hv;exact ⟨i,.inr ⟨(nul_iff x).2 hu,h1⟩,h2.mono (λ_ _ h=> .inr (.inl h)) (λ_ h=> .inl h) _ i⟩
   ·obtain ⟨i,h1,h2⟩:=(ix u hu0).1 hu;refine ⟨i,.inl h1,?_⟩;by_cases hv0:v=[]
    ·subst hv0;rw [XH];exact h2.mono (λ_ _ h=> .inl h) (λ_ h=> .inr ⟨(nul_iff y).2 hv,h⟩) _ i
    ·obtain ⟨j,h3,h4⟩:=(iy v hv0).1 hv;exact Pth.append (λ_ _ h=> .inl h) (λ_ _ h h'=> .inr (.inr ⟨h,h'⟩)) h3 (h4.mono (λ_ _ h=> .inr (.inl h)) (λ_ h=> .inl h) v j) u i h2
  ·rintro ⟨i,h1,h2⟩;rcases h1 with h1|⟨h0,h1⟩
   ·have k:Pth acc (λi j=>(x.fol i j\/y.fol i j)\/(x.last i/\y.first j)) (seq x y).last i w:=h2.mono (λi j h=>by
     rcases h with h|h|h
     ·exact .inl (.inl h)
     ·exact .inl (.inr h)
     ·exact .inr h) (λ_ h=>h) w i
    have inX:∀{e e':Nat->Prop} w i,(∀i,x.lab i->e i->e' i)->x.lab i->Pth acc (λi j=>x.fol i j\/y.fol i j) e i w->Pth acc x.fol e' i w:=λw i he hi h=>h.inside x.lab (λi j hp h=>
     h.elim (λh=>⟨(x.fol_lab h).2,h⟩) λh=>absurd (y.fol_lab h).1 (hd i hp)) he w i hi
    rcases k.link w i with q|⟨u,v,j,rfl,q1,q2,q3⟩
    ·by_cases hy:y.nul=Y8
     ·exact ⟨w,[],(XH w).symm,(ix w hw).2 ⟨i,h1,inX w i (λi hp h=>h.elim (λh=>absurd (y.last_lab h) (hd i hp)) λh=>h.2) (x.first_lab h1) q⟩,(nul_iff y).1 hy⟩
     ·exfalso;have z:=inX (e':=λ_=>False) w i (λi hp h=>h.elim (λh=>absurd (y.last_lab h) (hd i hp)) λh=>hy h.1) (x.first_lab h1) q;have Y5:∀(w:Δ) (i:Nat),¬Pth acc x.fol (λ_=>False) i w:=by
       intro w;induction w with
       |nil=>exact λ_ h=>h
       |cons b w ih=>
        rintro i ⟨_,⟨_,h⟩|⟨j,_,h⟩⟩
        ·exact h
        ·exact ih j h
      exact Y5 w i z
    ·refine ⟨u,v,rfl,(ix u q1.ne).2 ⟨i,h1,inX u i (λ_ _ h=>h) (x.first_lab h1) q1⟩,(iy v q3.ne).2 ⟨j,q2,inY v j (y.first_lab q2) (q3.mono (λi j h=> ?_) (λ_ h=>h) v j)⟩⟩;rcases h with (h|h)|h
     ·exact .inl h
     ·exact .inr (.inl h)
     ·exact .inr (.inr h)
   ·obtain q:=inY w i (y.first_lab h1) h2;exact ⟨[],w,rfl,(nul_iff x).1 h0,(iy w hw).2 ⟨i,h1,q⟩⟩
 |rep x,fx,w,hw=>by
  have ix:=places x fx;constructor
  ·intro h;change km (Lg x.pat) w at h;have key:∀w,km (Lg x.pat) w->w≠[]->∃i,x.first i/\Pth acc (rep x).fol x.last i w:=by
    intro w h;induction h with
    |nil=>exact λh=>absurd rfl h
    | @cons u v hu hv ih=>
     intro hn;by_cases hu0:u=[]
     ·subst hu0;exact ih hn
     ·obtain ⟨i,h1,h2⟩:=(ix u hu0).1 hu;refine ⟨i,h1,?_⟩;by_cases hv0:v=[]
      ·subst hv0;rw [XH];exact h2.mono (λ_ _ h=> .inl h) (λ_ h=>h) _ i
      ·obtain ⟨j,h3,h4⟩:=ih hv0;exact Pth.append (λ_ _ h=> .inl h) (λ_ _ h h'=> .inr ⟨h,h'⟩) h3 h4 u i h2
   exact key w h hw
  ·rintro ⟨i,h1,h2⟩;have key:∀(n:Nat) (w:Δ) (i:Nat),w.length<=n->x.first i->Pth acc (rep x).fol x.last i w->km (Lg x.pat) w:=by
    intro n;induction n with
    |zero=>intro w i hn _ h;exact absurd (XV.1 (by omega)) h.ne
    |succ n ih=>
     intro w i hn h1 h2;rcases Pth.link (fol:=x.fol) (l:=x.last) (g:=x.first) w i h2 with q|⟨u,v,j,rfl,q1,q2,q3⟩
     ·have:=km.cons ((ix w q.ne).2 ⟨i,h1,q⟩) km.nil;rwa [XH] at this
     ·have hu:0<u.length:=Yh.2 q1.ne;rw [Xa] at hn;exact .cons ((ix u q1.ne).2 ⟨i,h1,q1⟩) (ih v j (by omega) q2 q3)
   exact key w.length w i (W8 _) h1 h2
end Lt
section
end
section
end
structure Nd where
 k:Int
 lo:Int
 hi:Int
 a:Int
 b:Int
deriving DecidableEq
namespace Pat
end Pat
namespace Pat
end Pat
section
abbrev pa (b:Nat):Value:=.pointer (Y3 ⟨b,0,Y5⟩)
abbrev Nd.arr (x:Nd):Γ:= #[vi x.k,vi x.lo,vi x.hi,vi x.a,vi x.b]
def Nd.cells (x:Nd):Ξ:=[vi x.k,vi x.lo,vi x.hi,vi x.a,vi x.b]
def dW (l:List Nd):Ξ:=l.flatMap Nd.cells
theorem iN (l:List Nd):(dW l).length=l.length*5:=by
 induction l with
 |nil=>rfl
 |cons b l ih=>simp only [dW,XS,Xa,Xl] at ih ⊢;rw [ih];simp [Nd.cells];omega
theorem uk:∀(l:List Nd) (i:Nat) (hi:i<l.length),((dW l).drop (i*5)).take 5=l[i].cells
 |b::l,0,_=>by simp [dW,Nd.cells]
 |b::l,i+1,hi=>by
  have e:(i+1)*5=5+i*5:=by omega
  have:dW (b::l)=b.cells++dW l:=by simp [dW]
  rw [this,e,<- List.drop_drop,List.drop_left' (by simp [Nd.cells])];simpa using uk l i (by simpa using hi)
theorem gC (b:Nd):∀v∈b.arr.toList,ak v:=by intro v hv;simp only [W6,X6,or_false] at hv;rcases hv with rfl|rfl|rfl|rfl|rfl<;>exact jD
theorem RdS.nlen {F:PH} {s:Sl} {l:List Nd} (h:RdS F s 5 (dW l)):s.len=l.length:=by have:=h.len;rw [iN] at this;omega
def cb (st:ο) (i:Nat):Nat:=if h:i<st.size then (st[i]'h).toNat else 0
theorem TH {st:ο} {i:Nat} (h:i<st.size):cb st i=(st[i]'h).toNat:=dif_pos h
theorem J6 (st:ο) (i:Nat):cb st i<256:=by
 unfold cb;split
 ·exact UInt8.toNat_lt _
 ·omega
section
end
section
variable {F0 F:PH} {b i:Nat} {st:ο} {out:List Nd} {w:Bool}
theorem bV.som {F:PH} {e size:Nat} {s:Sl} {vs:Ξ} (h:bV F e size s vs) {a:Addr} (ha:s.YZ=Y3 a):∃o,F a.block=Y3 o:=by
 rcases h with ⟨rfl,_⟩|⟨b,cur,h1,h2,_⟩
 ·cases ha
 ·rw [ha] at h1;cases h1;exact ⟨_,h2⟩
end
section
variable {F0 F:PH} {b i:Nat} {st:ο} {out:List Nd} {w:Bool}
theorem OW {st:ο} {x:Int} {i:Nat} (hx:x=i) (h:i<st.size) (hl:Zd x<st.size):((st[Zd x]'hl).toNat:Int)=(cb st i:Int):=by subst hx;rw [TH h];rfl
end
def bs (s:ο):Δ:=s.data.toList.map UInt8.toNat
theorem cU (s:ο):(bs s).length=s.size:=by simp [bs]
theorem wE {s t:ο} (h:bs s=bs t):s=t:=by unfold bs at h;have:s.data.toList=t.data.toList:=List.map_inj_right (λa b e=>UInt8.toNat_inj.1 e) |>.1 h;cases s;cases t;congr;exact Array.toList_inj.1 this
theorem He (s:ο) (i:Nat):cb s i=(bs s).getD i 0:=by
 unfold cb bs;by_cases h:i<s.size
 ·rw [dif_pos h];have h':i<s.data.toList.length:=by simpa using h
  rw [Xx,Xj,N5 h'];rfl
 ·rw [dif_neg h,Xx,Xj,XC (by simpa using h)];rfl
theorem TJ (s:ο):∀b∈bs s,b<256:=by intro b hb;obtain ⟨x,_,rfl⟩:=Xi.1 hb;exact UInt8.toNat_lt x
theorem J7 (s:ο):∀(n i:Nat) (r:List UInt8),s.size - i=n->ByteArray.toList.loop s i r=r.reverse++s.data.toList.drop i:=by
 intro n;induction n with
 |zero=>intro i r h;unfold ByteArray.toList.loop;rw [Υ (by omega),List.drop_eq_nil_of_le (by simp at h ⊢;omega),XH]
 |succ n ih=>
  intro i r h;have hi:i<s.size:=by omega
  have hi':i<s.data.toList.length:=by simpa using hi
  unfold ByteArray.toList.loop;rw [Χ hi,ih (i+1) _ (by omega),List.drop_eq_getElem_cons hi',List.reverse_cons,XA];congr 1;rw [List.singleton_append];congr 1;simp [ByteArray.get!,getElem!_pos,hi]
theorem ye (s:ο):s.toList=s.data.toList:=by unfold ByteArray.toList;rw [J7 s _ 0 [] rfl];rfl
theorem ul (s:ο):s.toList.map UInt8.toNat=bs s:=by rw [ye];rfl
theorem Hf (s t:ο):(s.toList==t.toList)=decide (bs s=bs t):=by
 rw [Xc,δ,beq_iff_eq];constructor
 ·intro h;rw [<- ul,<- ul,h]
 ·intro h;rw [wE h]
section
end
variable {R:VR} {F:PH}
set_option maxHeartbeats 4000000
def M6 (a:Int) (R:VR) (F:PH):Prop:=Bc (a=0) (R (vi 64) F) (0<=(Int.fdiv (u64.wrap ((u64.wrap ((BitVec.ofInt (u64).bits a &&& BitVec.ofInt (u64).bits (u64.wrap (0 - a))).toNat))*285870213051353865)) (2 ^ (min (Zd 58) (u64).bits)))/\(Int.fdiv (u64.wrap ((u64.wrap ((BitVec.ofInt (u64).bits a &&& BitVec.ofInt (u64).bits (u64.wrap (0 - a))).toNat))*285870213051353865)) (2 ^ (min (Zd 58) (u64).bits)))<64/\∃b,F.cell (Zb (Zc 0 0 Y5) (Zd (Int.fdiv (u64.wrap ((u64.wrap ((BitVec.ofInt (u64).bits a &&& BitVec.ofInt (u64).bits (u64.wrap (0 - a))).toNat))*285870213051353865)) (2 ^ (min (Zd 58) (u64).bits)))*1))=Y3 (.int .u8 b)/\R (vi (i64.wrap b)) F)
theorem TK {a:Int} (h:M6 a R F):ν 215 #[.int .u64 a] F R:=Rx.Λ .N h
variable {R:VR} {F:PH}
set_option maxHeartbeats 4000000
def CG (a:Sl) (R:VR) (F:PH):Prop:=Bc ((a.len:Int)=0) (R (vi 40) F) (R (vi 0) F)
def CH (f:Ω) (e:Sl) (g:Nat) (R:VR) (a:Int) (F:PH):Prop:=Bc (a<(i64.wrap ((e.len:Int) - 1))) (Ls F (Am g 0) λb=>Ix b a λc=>Lb F (Zb c (Zd a*1)) λd=>Bb ((!d)) (R (vi 40) F) (f (i64.wrap (a+1)) F)) (CG e R F)
def CI (b:Sl) (c:Nat) (R:VR) (F:PH):Prop:=Lp 0 F λN a F=>CH N b c R a F
def cj (b:Ω) (_:Sl) (_:Nat) (a:Int) (_:VR) (F:PH):Prop:=b (i64.wrap (a+1)) F
def fW (e:Ω) (c:Sl) (d:Nat) (a:Int) (f:Nat) (b:Int) (B:Bool) (R:VR) (F:PH):Prop:=Bb ((!B)) (R (vi 40) F) (Bc (b<1) (Li F (Am f 3) λC=>Bc (C≠0) (R (vi 40) F) (Bc (b<2) (Li F (Am f 4) λD=>Bc (D≠0) (R (vi 40) F) (Bc (1<=b) (Li F (Am f 3) λE=>Cbo 182 #[(vi E),(vi a),(Pp d)] F λG F=>Bb ((!G)) (R (vi 40) F) (Bc (2<=b) (Li F (Am f 4) λH=>Cbo 182 #[(vi H),(vi a),(Pp d)] F λI F=>Bb ((!I)) (R (vi 40) F) (cj e c d a R F)) (cj e c d a R F))) (Bc (2<=b) (Li F (Am f 4) λg=>Cbo 182 #[(vi g),(vi a),(Pp d)] F λh F=>Bb ((!h)) (R (vi 40) F) (cj e c d a R F)) (cj e c d a R F)))) (Bc (1<=b) (Li F (Am f 3) λi=>Cbo 182 #[(vi i),(vi a),(Pp d)] F λj F=>Bb ((!j)) (R (vi 40) F) (Bc (2<=b) (Li F (Am f 4) λk=>Cbo 182 #[(vi k),(vi a),(Pp d)] F λl F=>Bb ((!l)) (R (vi 40) F) (cj e c d a R F)) (cj e c d a R F))) (Bc (2<=b) (Li F (Am f 4) λm=>Cbo 182 #[(vi m),(vi a),(Pp d)] F λn F=>Bb ((!n)) (R (vi 40) F) (cj e c d a R F)) (cj e c d a R F))))) (Bc (b<2) (Li F (Am f 4) λo=>Bc (o≠0) (R (vi 40) F) (Bc (1<=b) (Li F (Am f 3) λp=>Cbo 182 #[(vi p),(vi a),(Pp d)] F λq F=>Bb ((!q)) (R (vi 40) F) (Bc (2<=b) (Li F (Am f 4) λr=>Cbo 182 #[(vi r),(vi a),(Pp d)] F λs F=>Bb ((!s)) (R (vi 40) F) (cj e c d a R F)) (cj e c d a R F))) (Bc (2<=b) (Li F (Am f 4) λt=>Cbo 182 #[(vi t),(vi a),(Pp d)] F λu F=>Bb ((!u)) (R (vi 40) F) (cj e c d a R F)) (cj e c d a R F)))) (Bc (1<=b) (Li F (Am f 3) λv=>Cbo 182 #[(vi v),(vi a),(Pp d)] F λw F=>Bb ((!w)) (R (vi 40) F) (Bc (2<=b) (Li F (Am f 4) λx=>Cbo 182 #[(vi x),(vi a),(Pp d)] F λy F=>Bb ((!y)) (R (vi 40) F) (cj e c d a R F)) (cj e c d a R F))) (Bc (2<=b) (Li F (Am f 4) λz=>Cbo 182 #[(vi z),(vi a),(Pp d)] F λA F=>Bb ((!A)) (R (vi 40) F) (cj e c d a R F)) (cj e c d a R F)))))
def CJ (f:Ω) (c:Sl) (e:Nat) (R:VR) (a:Int) (F:PH):Prop:=Bc (a<(c.len:Int)) (Ix c a λg=>Lr F 5 (Zb g (Zd a*5)) λh=>Nb F (Y4 (#[vi 0,vi 0,vi 0,vi 0,vi 0]) 149) λd F=>au F (Am d 0) 5 h λF=>Li F (Am d 0) λi=>Ci 183 #[(vi i)] F λb F=>Li F (Am d 0) λj=>Bc (j=1) (Li F (Am d 1) λk=>Bc (0<=k) (Li F (Am d 1) λl=>Li F (Am d 2) λm=>Bc (l<=m) (Li F (Am d 2) λn=>fW f c e a d b (decide (n<=(255:Int))) R F) (fW f c e a d b Y6 R F)) (fW f c e a d b Y6 R F)) (Li F (Am d 1) λo=>Bc (o≠0) (fW f c e a d b Y6 R F) (Li F (Am d 2) λp=>Bc (p≠0) (fW f c e a d b Y6 R F) (fW f c e a d b (decide (0<=b)) R F)))) (CI c e R F)
def M7 (a:Sl) (R:VR) (F:PH):Prop:=Bc ((512:Int)<(a.len:Int)) (R (vi 2) F) (aF prog (Instr.makeSlice 211 (vi (a.len:Int)) (vi (a.len:Int))) F λv F=>∃b,v=(Y7 b)/\Nb F (Y4 (#[.slice Y5 0 0]) 211) λd F=>sto F (Am d 0) (Y7 b) λF=>Lp 0 F λN c F=>CJ N a d R c F)
theorem TL {a:Sl} (h:M7 a R F):ν 144 #[Y7 a] F R:=Rx.Λ (.Y2 (.Y2 (.Y2 (.Y2 (.J Y6 [] (.Y2 (.L [(19,.int .i64)] (.Y2 (.Y2 (.J Y6 [] (.Y2 (.Y2 (.Y2 (.J Y6 [(8,.bool)] .N .N)))) .N))))) (.J Y6 [] (.Y2 (.L [(105,.int .i64)] .N)) .N)))))) h
def pU (f:Nat) (c b:Θ) (R:VR) (F:PH):Prop:=Lx F (Am f 0) λd=>Cu 185 #[.pointer c,.string d,.func (.func 186) #[] #[(Pp f),.pointer b]] F λF=>∃a,b=Y3 a/\Lb F a λe=>R (.bool e) F
def M8 (d:Sl) (g:ο) (R:VR) (F:PH):Prop:=Nb F (Y4 #[.string g] 9) λh F=>Ci 144 #[Y7 d] F λi F=>Bc (i≠0) (R (.bool Y6) F) (ν 184 #[Y7 d] F λv F=>∃b,v=(.pointer b)/\Lx F (Am h 0) λe=>Bb ((e.toList==(ByteArray.mk #[]).toList)) (∃a,b=Y3 a/\Lb F (Zb a 18) λf=>Nb F (Y4 (#[.bool Y6]) 4) λj F=>sto F (Am j 0) (.bool f) λF=>pU h (Y3 a) (Y3 (Am j 0)) R F) (Nb F (Y4 (#[.bool Y6]) 4) λc F=>sto F (Am c 0) (.bool Y6) λF=>pU h b (Y3 (Am c 0)) R F))
theorem TM {a:Sl} {b:ο} (h:M8 a b R F):ν 145 #[Y7 a,.string b] F R:=Rx.Λ (.Y2 (.Y2 (.Y2 (.J Y6 [(5,.ptr),(6,.ptr)] .N .N)))) h
def M9 (a c:Int) (i:Θ) (R:VR) (F:PH):Prop:=Bc (a<0) (R (.bool Y6) F) (Bc (c<=a) (R (.bool Y6) F) (∃b,i=Y3 b/\Ls F b λd=>Ix d a λe=>Lb F (Zb e (Zd a*1)) λf=>Bb (f) (R (.bool Y6) F) (Ls F b λg=>Ix g a λh=>sto F (Zb h (Zd a*1)) (.bool Y8) λF=>R (.bool Y8) F)))
theorem TN {b:Int} {a:Int} {c:Θ} (h:M9 b a c R F):ν 182 #[(vi b),(vi a),.pointer c] F R:=Rx.Λ .N h
def pV (a:Int) (b:Bool) (R:VR) (F:PH):Prop:=Bb (b) (R (vi 0) F) (Bc (a=4) (R (vi 1) F) (Bc (a=2) (Bc (a=2) (R (vi 2) F) (R (vi (-1:Int)) F)) (Bc (a=3) (R (vi 2) F) (R (vi (-1:Int)) F))))
def Na (a:Int) (R:VR) (F:PH):Prop:=Bc (a=0) (pV a (decide (a=0)) R F) (pV a (decide (a=1)) R F)
theorem TO {a:Int} (h:Na a R F):ν 183 #[(vi a)] F R:=Rx.Λ (.Y2 (.T (.Y2 (.J Y6 [(4,.bool)] .N .N)) .N)) h
def jX (q:Nat) (i:Θ) (R:VR) (F:PH):Prop:=Nb F (Y4 (#[.nilFunc]) 247) λr F=>Nb F (Y4 (#[.nilFunc]) 251) λt F=>sto F (Am t 0) (.func (.func 202) #[] #[.pointer i]) λF=>sto F (Am r 0) (.func (.func 206) #[] #[(Pp q),(Pp r),(Pp t)]) λF=>∃a,i=Y3 a/\Lq F a λj=>Lq F a λe=>Lq F a λb=>∃k:ξ,F.cell (Am r 0)=Y3 k/\Ls F (Am q 0) λl=>Fn k λs n o=>ai prog s (n++([(vi (i64.wrap ((l.len:Int) - 1)))]).toArray++o) F λv F=>∃m,∃c,∃d,v=(Value.tuple #[(Value.agg m),(Value.agg c),(Value.bool d)])/\F.cell (Am q 0)=Y3 (Y7 l)/\F.cell a=Y3 (.pointer b)/\F.cell a=Y3 (.pointer e)/\F.cell a=Y3 (.pointer j)/\∃f,j=Y3 f/\au F (Zb f 1) 8 m λF=>F.cell a=Y3 (.pointer b)/\F.cell a=Y3 (.pointer e)/\∃g,e=Y3 g/\au F (Zb g 9) 8 c λF=>F.cell a=Y3 (.pointer b)/\∃h,b=Y3 h/\sto F (Zb h 18) (.bool d) λF=>Lq F a λp=>R (.pointer p) F
def Nc (j:Sl) (R:VR) (F:PH):Prop:=Nb F (Y4 #[Y7 j] 144) λd F=>Ls F (Am d 0) λb=>Ls F (Am d 0) λa=>((aF prog (Instr.makeSlice 230 (vi (a.len:Int)) (vi (a.len:Int))) F λv F=>∃g,v=(Y7 g)/\F.cell (Am d 0)=Y3 (Y7 a)/\F.cell (Am d 0)=Y3 (Y7 b)/\((Nb F (Y4 (#[Y7 b,.int .u64 0,.int .u64 0,.int .u64 0,.int .u64 0,.int .u64 0,.int .u64 0,.int .u64 0,.int .u64 0,.int .u64 0,.int .u64 0,.int .u64 0,.int .u64 0,.int .u64 0,.int .u64 0,.int .u64 0,.int .u64 0,Y7 g,.bool Y6]:Γ) 232) λk F=>Nb F (Y4 (#[.pointer Y5]) 226) λl F=>sto F (Am l 0) (Pp k) λF=>jX d (Y3 (Am l 0)) R F)/\(Nb F (Y4 (#[.pointer Y5]) 226) λe F=>Nb F (Y4 (#[Y7 b,.int .u64 0,.int .u64 0,.int .u64 0,.int .u64 0,.int .u64 0,.int .u64 0,.int .u64 0,.int .u64 0,.int .u64 0,.int .u64 0,.int .u64 0,.int .u64 0,.int .u64 0,.int .u64 0,.int .u64 0,.int .u64 0,Y7 g,.bool Y6]:Γ) 232) λh F=>sto F (Am e 0) (Pp h) λF=>jX d (Y3 (Am e 0)) R F)))/\(Nb F (Y4 (#[.pointer Y5]) 226) λf F=>aF prog (Instr.makeSlice 230 (vi (a.len:Int)) (vi (a.len:Int))) F λv F=>∃c,v=(Y7 c)/\F.cell (Am d 0)=Y3 (Y7 a)/\F.cell (Am d 0)=Y3 (Y7 b)/\Nb F (Y4 (#[Y7 b,.int .u64 0,.int .u64 0,.int .u64 0,.int .u64 0,.int .u64 0,.int .u64 0,.int .u64 0,.int .u64 0,.int .u64 0,.int .u64 0,.int .u64 0,.int .u64 0,.int .u64 0,.int .u64 0,.int .u64 0,.int .u64 0,Y7 c,.bool Y6]:Γ) 232) λi F=>sto F (Am f 0) (Pp i) λF=>jX d (Y3 (Am f 0)) R F))
theorem TQ {a:Sl} (h:Nc a R F):ν 184 #[Y7 a] F R:=Rx.Λ (.Y2 (.J Y6 [(3,.ptr)] .N .N)) h
def CL (u:Ω) (q:ξ) (p w s:Nat) (j:ο) (R:VR) (a:Int) (F:PH):Prop:=Bc (a<(j.size:Int)) (Nb F (Y4 (#[vi 0]) 3) λk F=>sto F (Am k 0) (vi a) λF=>Nb F (Y4 (#[.int .u64 0,.int .u64 0,.int .u64 0,.int .u64 0,.int .u64 0,.int .u64 0,.int .u64 0,.int .u64 0]) 229) λl F=>Nb F (Y4 (#[.int .u64 0,.int .u64 0,.int .u64 0,.int .u64 0,.int .u64 0,.int .u64 0,.int .u64 0,.int .u64 0]) 229) λt F=>Cu 203 #[(Pp s),.func (.func 208) #[] #[(Pp w),(Pp k),(Pp p),(Pp l),(Pp t)]] F λF=>Lr F 8 (Am l 0) λb=>∃f,(∀F,rdo prog (Op.equal 229 (.agg b) (.agg (#[.int .u64 0,.int .u64 0,.int .u64 0,.int .u64 0,.int .u64 0,.int .u64 0,.int .u64 0,.int .u64 0]:Γ))) F f)/\Bb (f) (R (.tuple #[]) F) (Li F (Am k 0) λc=>Lq F (Am p 0) λd=>∃e,d=Y3 e/\Lr F 8 (Zb e 9) λm=>Cbo 209 #[(Pp l),.agg m] F λn F=>F.cell (Am p 0)=Y3 (Value.pointer d)/\F.cell (Am k 0)=Y3 (vi c)/\F.row (Am l 0) b/\Fn q λr h i=>ai prog r (h++([(vi (i64.wrap (c+1))),(Value.bool n)]).toArray++i) F λv F=>∃g,v=(Value.bool g)/\F.cell (Am p 0)=Y3 (.pointer d)/\F.cell (Am k 0)=Y3 (vi c)/\F.row (Am l 0) b/\Bb ((!g)) (R (.tuple #[]) F) (Lr F 8 (Am t 0) λo=>au F (Am s 0) 8 o λF=>u (i64.wrap (a+1)) F))) (R (.tuple #[]) F)
def Nf (b:Θ) (g:ο) (h:ξ) (R:VR) (F:PH):Prop:=Nb F (Y4 #[.pointer b] 226) λi F=>Nb F (Y4 #[.string g] 9) λj F=>Lq F (Am i 0) λc=>∃a,c=Y3 a/\Lr F 8 (Zb a 1) λd=>Nb F (Y4 (#[.int .u64 0,.int .u64 0,.int .u64 0,.int .u64 0,.int .u64 0,.int .u64 0,.int .u64 0,.int .u64 0]) 229) λk F=>au F (Am k 0) 8 d λF=>Lx F (Am j 0) λe=>Lp 0 F λN f F=>CL N h i j k e R f F
theorem TR {a:Θ} {b:ο} {c:ξ} (h:Nf a b c R F):ν 185 #[.pointer a,.string b,c] F R:=Rx.Λ (.Y2 (.Y2 (.Y2 (.L [(16,.int .i64)] .N)))) h
def Ng (f:Int) (d:Bool) (g e:Θ) (R:VR) (F:PH):Prop:=∃b,g=Y3 b/\Lx F b λh=>Bc (f=(h.size:Int)) (∃c,e=Y3 c/\sto F c (.bool d) λF=>R (.bool Y8) F) (∃a,e=Y3 a/\sto F a (.bool Y6) λF=>R (.bool Y8) F)
theorem TT {b:Int} {a:Bool} {c:Θ} {d:Θ} (h:Ng b a c d R F):ν 186 #[(vi b),.bool a,.pointer c,.pointer d] F R:=Rx.Λ .N h
def Nh (a b:Γ) (c:Θ) (R:VR) (F:PH):Prop:=Nb F (Y4 a 229) λd F=>Nb F (Y4 b 229) λe F=>Cu 203 #[(Pp d),.func (.func 204) #[] #[.pointer c,(Pp e)]] F λF=>R (.tuple #[]) F
theorem TU {a:Γ} {b:Γ} {c:Θ} (h:Nh a b c R F):ν 202 #[.agg a,.agg b,.pointer c] F R:=Rx.Λ .N h
def CM (b:Ω) (_:ξ) (_:Θ) (a:Int) (_:VR) (F:PH):Prop:=b (i64.wrap (a+1)) F
def CN (i j:Ω) (d:ξ) (e:Int) (f:Addr) (R:VR) (a:Int) (F:PH):Prop:=Bc (a≠0) (Ci 215 #[.int .u64 a] F λg F=>Fn d λh b c=>ai prog h (b++([(vi (i64.wrap ((i64.wrap (64*e))+g)))]).toArray++c) F λv F=>v=(Value.tuple #[])/\j (u64.wrap ((BitVec.ofInt (u64).bits a &&& BitVec.ofInt (u64).bits (u64.wrap (a - 1))).toNat)) F) (CM i d (Y3 f) e R F)
def CO (i:Ω) (f:ξ) (g:Θ) (R:VR) (a:Int) (F:PH):Prop:=Bc (a<8) (∃b,g=Y3 b/\0<=a/\a<8/\Lk F .u64 (Zb b (Zd a*1)) λc=>(∃(h:Nat->Ω) (e:Nat),h e c F/\∀e d F,h e d F-> CN i (nx1 h e) f a b R d F)) (R (.tuple #[]) F)
def Ni (a:Θ) (b:ξ) (R:VR) (F:PH):Prop:=Lp 0 F λN c F=>CO N b a R c F
theorem TV {a:Θ} {b:ξ} (h:Ni a b R F):ν 203 #[.pointer a,b] F R:=Rx.Λ (.Y2 (.L [(7,.int .i64)] (.Y2 (.Y2 (.J Y6 [(6,.ptr)] (.Y2 (.L [(5,.int .u64)] .N)) .N))))) h
def Nj (d:Int) (h i:Θ) (R:VR) (F:PH):Prop:=∃a,h=Y3 a/\Lq F a λe=>∃b,e=Y3 b/\Ls F (Zb b 17) λf=>Ix f d λj=>∃c,i=Y3 c/\Lr F 8 c λg=>Cu 205 #[.pointer (Y3 (Zb j (Zd d*8))),.agg g] F λF=>F.cell (Zb b 17)=Y3 (Y7 f)/\F.cell a=Y3 (.pointer e)/\R (.tuple #[]) F
theorem TW {a:Int} {b:Θ} {c:Θ} (h:Nj a b c R F):ν 204 #[(vi a),.pointer b,.pointer c] F R:=Rx.Λ .N h
def CP (f:Ω) (e:Θ) (g:Nat) (R:VR) (a:Int) (F:PH):Prop:=Bc (a<8) (∃b,e=Y3 b/\0<=a/\a<8/\Lk F .u64 (Zb b (Zd a*1)) λc=>0<=a/\a<8/\Lk F .u64 (Zb (Am g 0) (Zd a*1)) λd=>0<=a/\a<8/\sto F (Zb b (Zd a*1)) (.int .u64 (u64.wrap ((BitVec.ofInt (u64).bits c ||| BitVec.ofInt (u64).bits d).toNat))) λF=>f (i64.wrap (a+1)) F) (R (.tuple #[]) F)
def Nk (a:Θ) (b:Γ) (R:VR) (F:PH):Prop:=Nb F (Y4 b 229) λd F=>Lp 0 F λN c F=>CP N a d R c F
theorem TX {a:Θ} {b:Γ} (h:Nk a b R F):ν 205 #[.pointer a,.agg b] F R:=Rx.Λ (.Y2 (.Y2 (.L [(5,.int .i64)] .N))) h
def pW (i j l:Nat) (e:Bool) (k:Nat) (f:Bool) (R:VR) (F:PH):Prop:=Lr F 8 (Am l 0) λg=>Lr F 8 (Am k 0) λh=>Bb (e) (au F (Am i 0) 8 g λF=>au F (Am j 0) 8 h λF=>Lr F 8 (Am i 0) λa=>Lr F 8 (Am j 0) λb=>R (.tuple #[.agg a,.agg b,.bool f]) F) (au F (Am i 0) 8 g λF=>au F (Am j 0) 8 h λF=>Lr F 8 (Am i 0) λc=>Lr F 8 (Am j 0) λd=>R (.tuple #[.agg c,.agg d,.bool Y6]) F)
def pX (f g h e:Nat) (b:Bool) (c:Nat) (a:Bool) (R:VR) (F:PH):Prop:=Bb (a) (Lr F 8 (Am e 0) λd=>Cu 205 #[(Pp c),.agg d] F λF=>pW f g h b c a R F) (pW f g h b c a R F)
def Nl (ac:Int) (aX ad aD:Θ) (R:VR) (F:PH):Prop:=Nb F (Y4 (#[.int .u64 0,.int .u64 0,.int .u64 0,.int .u64 0,.int .u64 0,.int .u64 0,.int .u64 0,.int .u64 0]) 229) λe F=>Nb F (Y4 (#[.int .u64 0,.int .u64 0,.int .u64 0,.int .u64 0,.int .u64 0,.int .u64 0,.int .u64 0,.int .u64 0]) 229) λf F=>∃O,aX=Y3 O/\Ls F O λaE=>Ix aE ac λaF=>Lr F 5 (Zb aF (Zd ac*5)) λaG=>Nb F (Y4 (#[vi 0,vi 0,vi 0,vi 0,vi 0]) 149) λb8 F=>au F (Am b8 0) 5 aG λF=>Li F (Am b8 0) λg=>Bc (g=1) (Cu 207 #[(Pp e),(vi ac)] F λF=>Lr F 8 (Am e 0) λaH=>Lr F 8 (Am e 0) λaI=>au F (Am e 0) 8 aH λF=>au F (Am f 0) 8 aI λF=>Lr F 8 (Am e 0) λG=>Lr F 8 (Am f 0) λH=>R (.tuple #[.agg G,.agg H,.bool Y6]) F) (Bc (g=2) (∃y,ad=Y3 y/\∃P:ξ,F.cell y=Y3 P/\Li F (Am b8 3) λaJ=>Fn P λaY af ag=>ai prog aY (af++([(vi aJ)]).toArray++ag) F λv F=>∃Q,∃h,∃a,v=(Value.tuple #[(Value.agg Q),(Value.agg h),(Value.bool a)])/\Nb F (Y4 (#[.int .u64 0,.int .u64 0,.int .u64 0,.int .u64 0,.int .u64 0,.int .u64 0,.int .u64 0,.int .u64 0]) 229) λb9 F=>Nb F (Y4 (#[.int .u64 0,.int .u64 0,.int .u64 0,.int .u64 0,.int .u64 0,.int .u64 0,.int .u64 0,.int .u64 0]) 229) λI F=>au F (Am b9 0) 8 Q λF=>au F (Am I 0) 8 h λF=>∃S:ξ,F.cell y=Y3 S/\Li F (Am b8 4) λaK=>Fn S λaZ ah aj=>ai prog aZ (ah++([(vi aK)]).toArray++aj) F λv F=>∃T,∃i,∃b,v=(Value.tuple #[(Value.agg T),(Value.agg i),(Value.bool b)])/\Nb F (Y4 (#[.int .u64 0,.int .u64 0,.int .u64 0,.int .u64 0,.int .u64 0,.int .u64 0,.int .u64 0,.int .u64 0]) 229) λak F=>Nb F (Y4 (#[.int .u64 0,.int .u64 0,.int .u64 0,.int .u64 0,.int .u64 0,.int .u64 0,.int .u64 0,.int .u64 0]) 229) λal F=>au F (Am ak 0) 8 T λF=>au F (Am al 0) 8 i λF=>∃U,aD=Y3 U/\∃V:ξ,F.cell U=Y3 V/\Lr F 8 (Am I 0) λaL=>Lr F 8 (Am ak 0) λaM=>Fn V λa0 am an=>ai prog a0 (am++([(Value.agg aL),(Value.agg aM)]).toArray++an) F λv F=>v=(Value.tuple #[])/\Bb (a) (Lr F 8 (Am ak 0) λaN=>Cu 205 #[(Pp b9),.agg aN] F λF=>pX e f b9 I a al b R F) (pX e f b9 I a al b R F)) (Bc (g=3) (∃c,ad=Y3 c/\∃W:ξ,F.cell c=Y3 W/\Li F (Am b8 3) λaO=>Fn W λa1 ao ap=>ai prog a1 (ao++([(vi aO)]).toArray++ap) F λv F=>∃X,∃j,∃k,v=(Value.tuple #[(Value.agg X),(Value.agg j),(Value.bool k)])/\Nb F (Y4 (#[.int .u64 0,.int .u64 0,.int .u64 0,.int .u64 0,.int .u64 0,.int .u64 0,.int .u64 0,.int .u64 0]) 229) λaq F=>Nb F (Y4 (#[.int .u64 0,.int .u64 0,.int .u64 0,.int .u64 0,.int .u64 0,.int .u64 0,.int .u64 0,.int .u64 0]) 229) λar F=>au F (Am aq 0) 8 X λF=>au F (Am ar 0) 8 j λF=>∃Y:ξ,F.cell c=Y3 Y/\Li F (Am b8 4) λaP=>Fn Y λa2 av aw=>ai prog a2 (av++([(vi aP)]).toArray++aw) F λv F=>∃Z,∃l,∃m,v=(Value.tuple #[(Value.agg Z),(Value.agg l),(Value.bool m)])/\Nb F (Y4 (#[.int .u64 0,.int .u64 0,.int .u64 0,.int .u64 0,.int .u64 0,.int .u64 0,.int .u64 0,.int .u64 0]) 229) λaQ F=>Nb F (Y4 (#[.int .u64 0,.int .u64 0,.int .u64 0,.int .u64 0,.int .u64 0,.int .u64 0,.int .u64 0,.int .u64 0]) 229) λaR F=>au F (Am aQ 0) 8 Z λF=>au F (Am aR 0) 8 l λF=>Lr F 8 (Am aQ 0) λaS=>Cu 205 #[(Pp aq),.agg aS] F λF=>Lr F 8 (Am aR 0) λaT=>Cu 205 #[(Pp ar),.agg aT] F λF=>Lr F 8 (Am aq 0) λaa=>Lr F 8 (Am ar 0) λab=>Bb (k) (au F (Am e 0) 8 aa λF=>au F (Am f 0) 8 ab λF=>Lr F 8 (Am e 0) λp=>Lr F 8 (Am f 0) λq=>R (.tuple #[.agg p,.agg q,.bool Y8]) F) (au F (Am e 0) 8 aa λF=>au F (Am f 0) 8 ab λF=>Lr F 8 (Am e 0) λr=>Lr F 8 (Am f 0) λs=>R (.tuple #[.agg r,.agg s,.bool m]) F)) (Bc (g=4) (∃n,ad=Y3 n/\∃z:ξ,F.cell n=Y3 z/\Li F (Am b8 3) λax=>Fn z λaU J K=>ai prog aU (J++([(vi ax)]).toArray++K) F λv F=>∃A,∃d,∃B,v=(Value.tuple #[(Value.agg A),(Value.agg d),(Value.bool B)])/\Nb F (Y4 (#[.int .u64 0,.int .u64 0,.int .u64 0,.int .u64 0,.int .u64 0,.int .u64 0,.int .u64 0,.int .u64 0]) 229) λay F=>Nb F (Y4 (#[.int .u64 0,.int .u64 0,.int .u64 0,.int .u64 0,.int .u64 0,.int .u64 0,.int .u64 0,.int .u64 0]) 229) λL F=>au F (Am ay 0) 8 A λF=>au F (Am L 0) 8 d λF=>∃o,aD=Y3 o/\∃C:ξ,F.cell o=Y3 C/\Lr F 8 (Am L 0) λaz=>Lr F 8 (Am ay 0) λaA=>Fn C λaV M N=>ai prog aV (M++([(Value.agg az),(Value.agg aA)]).toArray++N) F λv F=>v=(Value.tuple #[])/\Lr F 8 (Am ay 0) λaB=>Lr F 8 (Am L 0) λD=>au F (Am e 0) 8 aB λF=>F.row (Am L 0) D/\au F (Am f 0) 8 D λF=>Lr F 8 (Am e 0) λt=>Lr F 8 (Am f 0) λu=>R (.tuple #[.agg t,.agg u,.bool Y8]) F) (Lr F 8 (Am e 0) λaC=>Lr F 8 (Am f 0) λE=>au F (Am e 0) 8 aC λF=>F.row (Am f 0) E/\au F (Am f 0) 8 E λF=>Lr F 8 (Am e 0) λw=>Lr F 8 (Am f 0) λx=>R (.tuple #[.agg w,.agg x,.bool Y8]) F))))
theorem TY {a:Int} {b:Θ} {c:Θ} {d:Θ} (h:Nl a b c d R F):ν 206 #[(vi a),.pointer b,.pointer c,.pointer d] F R:=Rx.Λ (.Y2 (.Y2 (.T (.Y2 (.Y2 (.Y2 (.Y2 (.T (.Y2 (.Y2 (.Y2 (.J Y6 [] .N (.J Y6 [] .N .N))))) .N))))) .N))) h
def Nm (d:Θ) (a:Int) (R:VR) (F:PH):Prop:=∃b,d=Y3 b/\0<=(i64.wrap (Int.tdiv a 64))/\(i64.wrap (Int.tdiv a 64))<8/\∃c,F.cell (Zb b (Zd (i64.wrap (Int.tdiv a 64))*1))=Y3 (.int .u64 c)/\0<=(Zk a 64)/\0<=(i64.wrap (Int.tdiv a 64))/\(i64.wrap (Int.tdiv a 64))<8/\sto F (Zb b (Zd (i64.wrap (Int.tdiv a 64))*1)) (.int .u64 (u64.wrap ((BitVec.ofInt (u64).bits c ||| BitVec.ofInt (u64).bits (u64.wrap (1*2 ^ (min (Zd (Zk a 64)) (u64).bits)))).toNat))) λF=>R (.tuple #[]) F
theorem TZ {a:Θ} {b:Int} (h:Nm a b R F):ν 207 #[.pointer a,(vi b)] F R:=Rx.Λ .N h
def pY (c:Int) (i j k:Θ) (d:Bool) (R:VR) (F:PH):Prop:=Bb (d) (Cu 207 #[.pointer j,(vi c)] F λF=>∃b,i=Y3 b/\Lq F b λe=>∃a,e=Y3 a/\Ls F (Zb a 17) λf=>Ix f c λg=>Lr F 8 (Zb g (Zd c*8)) λh=>Cu 205 #[.pointer k,.agg h] F λF=>R (.tuple #[]) F) (R (.tuple #[]) F)
def Nn (b:Int) (t u v j k:Θ) (R:VR) (F:PH):Prop:=∃g,t=Y3 g/\Lx F g λi=>∃h,u=Y3 h/\Li F h λf=>0<=f/\f<(i.size:Int)/\∃(hx:Zd f<i.size) (c:Int),c=((i[Zd f]'hx).toNat:Int)/\∃a,v=Y3 a/\Lq F a λl=>∃d,l=Y3 d/\Ls F d λm=>Ix m b λn=>Li F (Zb (Zb n (Zd b*5)) 1) λo=>Bc (o<=(i64.wrap c)) (Lq F a λp=>∃e,p=Y3 e/\Ls F e λq=>Ix q b λr=>Li F (Zb (Zb r (Zd b*5)) 2) λs=>pY b (Y3 a) j k (decide ((i64.wrap c)<=s)) R F) (pY b (Y3 a) j k Y6 R F)
theorem T0 {a:Int} {b:Θ} {c:Θ} {d:Θ} {e:Θ} {f:Θ} (h:Nn a b c d e f R F):ν 208 #[(vi a),.pointer b,.pointer c,.pointer d,.pointer e,.pointer f] F R:=Rx.Λ (.Y2 (.J Y6 [(3,.ptr),(33,.bool)] .N .N)) h
def CQ (R:VR) (F:PH):Prop:=R (.bool Y6) F
def CR (f:Ω) (e:Θ) (g:Nat) (R:VR) (a:Int) (F:PH):Prop:=Bc (a<8) (∃b,e=Y3 b/\0<=a/\a<8/\Lk F .u64 (Zb b (Zd a*1)) λc=>0<=a/\a<8/\Lk F .u64 (Zb (Am g 0) (Zd a*1)) λd=>Bc ((u64.wrap ((BitVec.ofInt (u64).bits c &&& BitVec.ofInt (u64).bits d).toNat))≠0) (R (.bool Y8) F) (f (i64.wrap (a+1)) F)) (CQ R F)
def No (a:Θ) (b:Γ) (R:VR) (F:PH):Prop:=Nb F (Y4 b 229) λd F=>Lp 0 F λN c F=>CR N a d R c F
theorem T1 {a:Θ} {b:Γ} (h:No a b R F):ν 209 #[.pointer a,.agg b] F R:=Rx.Λ (.Y2 (.J Y6 [] (.Y2 (.L [(6,.int .i64)] .N)) .N)) h
abbrev dg (n:Nat):Value:=.int .u64 (n:Int)
def plA (P:Nat->Bool):Γ:= #[dg (wd P 0),dg (wd P 1),dg (wd P 2),dg (wd P 3),dg (wd P 4),dg (wd P 5),dg (wd P 6),dg (wd P 7)]
def noP:Nat->Bool:=λ_=>Y6
theorem dX:plA noP= #[.int .u64 0,.int .u64 0,.int .u64 0,.int .u64 0,.int .u64 0,.int .u64 0,.int .u64 0,.int .u64 0]:=by unfold plA noP;simp only [wM];rfl
theorem Hg (P:Nat->Bool):(plA P).size=8:=rfl
theorem fk (P:Nat->Bool) {k:Nat} (h:k<8):(plA P)[k]? =Y3 (dg (wd P k)):=by
 have:k=0\/k=1\/k=2\/k=3\/k=4\/k=5\/k=6\/k=7:=by omega
 rcases this with rfl|rfl|rfl|rfl|rfl|rfl|rfl|rfl<;>rfl
theorem gh (P:Nat->Bool):∀v∈(plA P).toList,ak v:=by intro v hv;simp only [plA,W6,X6,or_false] at hv;rcases hv with rfl|rfl|rfl|rfl|rfl|rfl|rfl|rfl<;>exact jD
def tz (P Q:Nat->Bool) (k:Nat):Ξ:=(List.range 8).map λj=>if j<k then dg (wd Q j) else dg (wd P j)
theorem Ed (P Q:Nat->Bool):tz P Q 0=(plA P).toList:=rfl
theorem Hh (P Q:Nat->Bool):tz P Q 8=(plA Q).toList:=rfl
theorem Hi (P Q:Nat->Bool) {k:Nat} (hk:k<8):(tz P Q k).set k (dg (wd Q k))=tz P Q (k+1):=by
 have:k=0\/k=1\/k=2\/k=3\/k=4\/k=5\/k=6\/k=7:=by omega
 rcases this with rfl|rfl|rfl|rfl|rfl|rfl|rfl|rfl<;>rfl
theorem Hj (P Q:Nat->Bool) {k:Nat} (hk:k<8):(tz P Q k)[k]? =Y3 (dg (wd P k)):=by
 have:k=0\/k=1\/k=2\/k=3\/k=4\/k=5\/k=6\/k=7:=by omega
 rcases this with rfl|rfl|rfl|rfl|rfl|rfl|rfl|rfl<;>rfl
theorem cC (b o k:Nat):(Zc b o Y5).add k=⟨b,o+k,Y5⟩:=by
 by_cases h:k=0
 ·subst h;rfl
 ·simp [Zb,h]
def ko (F:PH) (b:Nat) (e:TypeId) (pre:Ξ) (P:Nat->Bool) (post:Ξ):Prop:=F b=Y3 (Y4 (pre++(plA P).toList++post).toArray e)
theorem ko.row {F:PH} {b:Nat} {e:TypeId} {pre post:Ξ} {P:Nat->Bool} (h:ko F b e pre P post):F.row ⟨b,pre.length,Y5⟩ (plA P):=by intro i hi;have hi':i<8:=hi;rw [cC,aq h];rw [List.getElem?_toArray,XA,Xn (by omega),Yu,Xh (by exact hi')];simp
theorem ko.own {F:PH} {b:Nat} {e:TypeId} {P:Nat->Bool}:ko F b e [] P []↔F b=Y3 (Y4 (plA P) e):=by unfold ko;simp
section
variable {F:PH}
theorem um {b:Nat} {e:TypeId} {pre post:Ξ} {P Q:Nat->Bool} (h:ko F b e pre P post):
  ν 205 #[.pointer (Y3 ⟨b,pre.length,Y5⟩),.agg (plA Q)] F λr F'=>r=.tuple #[]/\ko F' b e pre (λi=>P i || Q i) post/\dE (λx=>x=b) F F':=by
 refine TX ?_;unfold Nk;intro b3 hb3;refine atI ?_;have hbF:∃o,F b=Y3 o:=⟨_,h⟩;have l3:=ae (Y4 (plA Q) 229) hb3;have q3:=al F b3 (Y4 (plA Q) 229);have h3:(F.set b3 (Y4 (plA Q) 229)) b=Y3 (Y4 (pre++tz P (λi=>P i || Q i) 0++post).toArray e):=by rw [Ed];exact l3 _ _ h
 have hne:b≠b3:=aG hb3 h;generalize F.set b3 (Y4 (plA Q) 229)=F3 at*;refine ⟨λm i F'=>∃k:Nat,i=k/\k<=8/\m=8 - k/\F' b3=Y3 (Y4 (plA Q) 229)/\F' b=Y3 (Y4 (pre++tz P (λi=>P i || Q i) k++post).toArray e)/\dE (λx=>x=b) F F',8,⟨0,rfl,by omega,rfl,q3,h3,dE.of_le l3⟩,?_⟩;rintro _ _ F4 ⟨k,rfl,hk,rfl,q4,h4,hk4⟩;unfold CP;refine ⟨λhlt=> ?_,λhge=> ?_⟩
 ·have h8:k<8:=by omega
  have hml:(tz P (λi=>P i || Q i) k).length=8:=by simp [tz]
  have hg:(pre++tz P (λi=>P i || Q i) k++post).toArray[pre.length+k]? =Y3 (dg (wd P k)):=by rw [List.getElem?_toArray,XA,Xn (by omega),Yu,Xh (by omega)];exact Hj P _ h8
  have ek:Zd (k:Int)*1=k:=by rw [N4,Xz]
  rw [ek];have hc:F4.cell ((Zc b pre.length Y5).add k)=Y3 (dg (wd P k)):=by rw [cC,aq h4];exact hg
  have hc3:F4.cell ((Zc b3 0 Y5).add k)=Y3 (dg (wd Q k)):=by rw [cC,Xm,aq q4];exact fk Q h8
  refine ⟨_,rfl,by omega,by omega,_,hc,by omega,by omega,_,hc3,by omega,by omega,?_⟩;refine sE (b:=b) (o:=pre.length+k) (cC b pre.length k) h4 (by simp [hml];omega) ?_;rw [HM (oE P k) (oE Q k),<- Us];refine ⟨8 - (k+1),by omega,k+1,fz (by omega),h8,rfl,?_,?_,hk4.trans (dE.set _ (.inl rfl))⟩
  ·rw [az _ _ hne.symm];exact q4
  ·rw [al];congr 2;rw [List.setIfInBounds_toArray];congr 1;rw [XA,List.set_append_right _ _ (by omega),Yu,List.set_append_left _ _ (by omega),XA];congr 2;exact Hi P (λi=>P i || Q i) h8
 ·obtain rfl:k=8:=by omega
  rw [Hh] at h4;exact ⟨rfl,h4,hk4⟩
theorem yf {b:Nat} {e:TypeId} {pre post:Ξ} {P Q:Nat->Bool} (h:ko F b e pre P post):
  ν 209 #[.pointer (Y3 ⟨b,pre.length,Y5⟩),.agg (plA Q)] F λr F'=>(∃t:Bool,r=.bool t/\(t=Y8↔∃i,i<512/\P i=Y8/\Q i=Y8))/\F.le F':=by
 refine T1 ?_;unfold No;intro b3 hb3;refine atI ?_;have l3:=ae (Y4 (plA Q) 229) hb3;have q3:=al F b3 (Y4 (plA Q) 229);have h3:ko (F.set b3 (Y4 (plA Q) 229)) b e pre P post:=l3 _ _ h;generalize F.set b3 (Y4 (plA Q) 229)=F3 at*;refine ⟨λm i F'=>∃k:Nat,i=k/\k<=8/\m=8 - k/\F'=F3/\∀i,i<64*k->¬(P i=Y8/\Q i=Y8),8,⟨0,rfl,by omega,rfl,rfl,λi hi=>by omega⟩,?_⟩;rintro _ _ F4 ⟨k,rfl,hk,rfl,e4,hall⟩;obtain rfl:=e4.symm;unfold CR;refine ⟨λhlt=> ?_,λhge=> ?_⟩
 ·have h8:k<8:=by omega
  have ek:Zd (k:Int)*1=k:=by rw [N4,Xz]
  rw [ek];have hc:F3.cell ((Zc b pre.length Y5).add k)=Y3 (dg (wd P k)):=by have:=h3.row k h8;rw [this];have e:=fk P h8;rw [Xu (by exact h8)] at e;exact e
  have hc3:F3.cell ((Zc b3 0 Y5).add k)=Y3 (dg (wd Q k)):=by rw [cC,Xm,aq q3];exact fk Q h8
  refine ⟨_,rfl,by omega,by omega,_,hc,by omega,by omega,_,hc3,?_⟩;dsimp only;rw [wO (oE P k) (oE Q k),<- Pe];refine ⟨λhne=>⟨⟨Y8,rfl,?_⟩,l3⟩,λhe=>⟨8 - (k+1),by omega,k+1,fz (by omega),h8,rfl,rfl,λi hi=> ?_⟩⟩
  ·refine ⟨λ_=> ?_,λ_=>rfl⟩;have h0:¬wd (λi=>P i && Q i) k=0:=by omega
   rw [iR] at h0;have:∃j,¬(j<64->(P (64*k+j) && Q (64*k+j))=Y6):=Classical.not_forall.1 h0;obtain ⟨j,hj⟩:=this;have hj64:j<64:=Classical.byContradiction λh=>hj λh'=>absurd h' h;have hj2:¬(P (64*k+j) && Q (64*k+j))=Y6:=λh=>hj λ_=>h;simp at hj2;exact ⟨64*k+j,by omega,hj2⟩
  ·by_cases hlt2:i<64*k
   ·exact hall i hlt2
   ·have h0:wd (λi=>P i && Q i) k=0:=by omega
    have:=iR.1 h0 (i - 64*k) (by omega);rw [show 64*k+(i - 64*k)=i by omega] at this;rintro ⟨a,c⟩;rw [a,c] at this;cases this
 ·obtain rfl:k=8:=by omega
  unfold CQ;exact ⟨⟨Y6,rfl,λh=>(by cases h),λ⟨i,hi,hp⟩=>absurd hp (hall i (by omega))⟩,l3⟩
theorem Ee {b:Nat} {P:Nat->Bool} {i:Nat} (hi:i<512) (h:F b=Y3 (Y4 (plA P) 229)):
  ν 207 #[pa b,vi i] F λr F'=>r=.tuple #[]/\F'=F.set b (Y4 (plA λj=>P j || decide (j=i)) 229):=by
 refine TZ ?_;unfold Nm;have e1:i64.wrap (Int.tdiv (i:Int) 64)=((i / 64:Nat):Int):=by rw [show Int.tdiv (i:Int) 64=((i / 64:Nat):Int) from rfl,aP (by omega)]
 have e2:Zk (i:Int) 64=((i % 64:Nat):Int):=rfl;rw [e1,e2];have ek:Zd ((i / 64:Nat):Int)*1=i / 64:=by rw [N4,Xz]
 rw [ek];have h8:i / 64<8:=by omega
 have hc:F.cell ((Zc b 0 Y5).add (i / 64))=Y3 (dg (wd P (i / 64))):=by rw [cC,Xm,aq h];exact fk P h8
 refine ⟨_,rfl,by omega,by omega,_,hc,by omega,by omega,by omega,?_⟩;refine sE (b:=b) (o:=i / 64) (by rw [cC,Xm]) h (by rw [Hg];exact h8) ⟨rfl,?_⟩;have hp:2 ^ (i % 64)<18446744073709551616:=by have:2 ^ (i % 64)<2 ^ 64:=Nat.pow_lt_pow_right (by omega) (by omega);exact this
 have ep:u64.wrap ((1:Int)*2 ^ (min (Zd ((i % 64:Nat):Int)) (u64).bits))=((2 ^ (i % 64):Nat):Int):=by
  have hm:min (Zd ((i % 64:Nat):Int)) (u64).bits=i % 64:=by rw [N4];show min (i % 64) 64=i % 64;omega
  rw [hm];have:(1:Int)*2 ^ (i % 64)=((2 ^ (i % 64):Nat):Int):=by simp
  rw [this];exact mH (Int.natCast_nonneg _) (Int.ofNat_lt.2 hp)
 rw [ep,HM (oE P _) hp];congr 2;have ew:wd P (i / 64) ||| 2 ^ (i % 64)=wd (λj=>P j || decide (j=i)) (i / 64):=by refine uy (Nat.or_lt_two_pow (oE P _) hp) λj hj=> ?_;rw [Nat.testBit_or,iQ P _ hj,YN];congr 1;rw [Xc];simp;omega
 rw [ew];have eo:∀k,k≠i / 64->k<8->wd P k=wd (λj=>P j || decide (j=i)) k:=λk hk _=>HK λj hj=>by show P (64*k+j)=(P (64*k+j) || decide (64*k+j=i));rw [show decide (64*k+j=i)=Y6 by simp;omega,YT]
 apply Array.ext';apply XR;intro k;rw [Array.toList_setIfInBounds,Yt];by_cases hk8:k<8
 ·have g1:∀(Q:Nat->Bool),(plA Q).toList[k]? =Y3 (dg (wd Q k)):=λQ=>by rw [Yk];exact fk Q hk8
  rw [g1,g1];by_cases hik:i / 64=k
  ·rw [Χ hik,Χ (by exact h8),hik]
  ·rw [Υ hik,eo k (λe=>hik e.symm) hk8]
 ·have g2:∀(Q:Nat->Bool),(plA Q).toList[k]? =Y5:=λQ=>XC (by show 8<=k;omega);rw [g2,g2,Υ (by omega)]
def Tab (F:PH):Prop:=∀k v,yr[k]? =Y3 v->F.cell ⟨0,k,Y5⟩=Y3 (.int .u8 ((v:Nat):Int))
theorem Tab.le {F G:PH} (h:Tab F) (hl:F.le G):Tab G:=λk v hv=>aI hl (h k v hv)
theorem J8 (hT:Tab F) {x t:Nat} (hx:x<18446744073709551616) (h:Low x t):ν 215 #[.int .u64 x] F λr F'=>r=vi t/\F'=F:=by
 refine TK ?_;unfold M6;have hpos:=h.pos;refine ⟨λh0=>absurd h0 (by omega),λ_=> ?_⟩;have ht:t<64:=by
  rcases Nat.lt_or_ge t 64 with h1|h1
  ·exact h1
  ·obtain ⟨m,rfl⟩:=h;have:2 ^ 64<=2 ^ t:=XO (by omega) h1;omega
 have e1:u64.wrap (0 - (x:Int))=((2 ^ 64 - x:Nat):Int):=by
  unfold IntKind.wrap;simp only [IntKind.bits,IntKind.signed];simp only [Bool.false_and,XE,if_false];have:(2:Nat) ^ 64=18446744073709551616:=by decide
  omega
 have e2:2 ^ 64 - x<18446744073709551616:=by omega
 rw [e1,wO hx e2,h.neg hx];have hC:=Ut t ht;have e3:u64.wrap (((2 ^ t:Nat):Int)*285870213051353865)=((2 ^ t*285870213051353865 % 18446744073709551616:Nat):Int):=by
  unfold IntKind.wrap;simp only [IntKind.bits,IntKind.signed];simp only [Bool.false_and,XE,if_false];have:((2:Nat) ^ 64:Nat)=18446744073709551616:=by decide
  omega
 rw [e3];generalize hy:2 ^ t*285870213051353865 % 18446744073709551616=y at*;have e4:Int.fdiv ((y:Nat):Int) (2 ^ (min (Zd (58:Int)) (u64).bits))=((y / 288230376151711744:Nat):Int):=by
  have:(2:Int) ^ (min (Zd (58:Int)) (u64).bits)=288230376151711744:=by decide
  rw [this,Int.fdiv_eq_ediv_of_nonneg _ (by decide)];omega
 rw [e4,N4,Xz,cC,Xm];refine ⟨by omega,by omega,_,hT _ _ hC.2,?_,rfl⟩;rw [Uu (by omega)]
theorem un {a:Addr} {P:Nat->Bool} {k:FuncId} {cap:Γ} {Inv:Nat->Ψ} (hk:aC prog k=Y8) (_:a.spot=Y5)
  (hI:∀n F,Inv n F->Tab F/\F.row a (plA P)) (h0:∀i F,i<512->P i=Y6->Inv i F->Inv (i+1) F)
  (h1:∀i F,i<512->P i=Y8->Inv i F->ai prog k (#[vi i]++cap) F λr F'=>r=.tuple #[]/\Inv (i+1) F') (hF:Inv 0 F):
  ν 203 #[.pointer (Y3 a),.func (.func k) #[] cap] F λr F'=>r=.tuple #[]/\Inv 512 F':=by
 refine TV ?_;unfold Ni;refine ⟨λm i F'=>∃w:Nat,i=w/\w<=8/\m=8 - w/\Inv (64*w) F',8,⟨0,rfl,by omega,rfl,hF⟩,?_⟩;rintro _ _ F1 ⟨w,rfl,hw,rfl,hi1⟩;unfold CO;refine ⟨λhlt=> ?_,λhge=> ?_⟩
 ·have h8:w<8:=by omega
  have ek:Zd (w:Int)*1=w:=by rw [N4,Xz]
  rw [ek];have hc:F1.cell (a.add w)=Y3 (dg (wd P w)):=by rw [(hI _ _ hi1).2 w h8];have e:=fk P h8;rw [Xu (by exact h8)] at e;exact e
  refine ⟨a,rfl,by omega,by omega,_,hc,?_⟩;refine ⟨λm x F'=>∃j y:Nat,x=y/\j<=64/\m=64 - j/\y<18446744073709551616/\(∀i,y.testBit i=((wd P w).testBit i && decide (j<=i)))/\Inv (64*w+j) F',64,⟨0,wd P w,rfl,by omega,rfl,oE P w,λi=>by simp,hi1⟩,?_⟩;rintro _ _ F2 ⟨j,y,rfl,hj,rfl,hy,hbit,hi2⟩;unfold CN;have skip:∀(t:Nat),j<=t->t<=64->(∀i,j<=i->i<t->P (64*w+i)=Y6)->Inv (64*w+t) F2:=by
   intro t;induction t with
   |zero=>
    intro h _ _;obtain rfl:j=0:=by omega
    exact hi2
   |succ t ih=>
    intro h h2 h3;by_cases e:j=t+1
    ·subst e;exact hi2
    ·have:=ih (by omega) (by omega) λi a c=>h3 i a (by omega);exact h0 (64*w+t) F2 (by omega) (h3 t (by omega) (by omega)) this
  refine ⟨λhne=> ?_,λhe=> ?_⟩
  ·
   have hex:∃t,y.testBit t=Y8:=Classical.byContradiction λhn=>by
    have:y=0:=Nat.eq_of_testBit_eq λi=>by rw [Nat.zero_testBit];exact XZ.2 λh=>hn ⟨i,h⟩
    omega
   obtain ⟨t,ht,hmin⟩:∃t,y.testBit t=Y8/\∀i,i<t->y.testBit i=Y6:=by
    obtain ⟨t,ht⟩:=hex;have key:∀n t,t<=n->y.testBit t=Y8->∃t,y.testBit t=Y8/\∀i,i<t->y.testBit i=Y6:=by
     intro n;induction n with
     |zero=>
      intro t h ht;obtain rfl:t=0:=by omega
      exact ⟨0,ht,λi hi=>by omega⟩
     |succ n ih=>
      intro t h ht;by_cases hl:∃i,i<t/\y.testBit i=Y8
      ·obtain ⟨i,h1,h2⟩:=hl;exact ih i (by omega) h2
      ·exact ⟨t,ht,λi hi=>XZ.2 λh=>hl ⟨i,hi,h⟩⟩
    exact key t t (W8 _) ht
   have hlow:Low y t:=Low.of ht hmin;have htb:=hbit t;rw [ht] at htb;simp at htb;have ht64:t<64:=by
    rcases Nat.lt_or_ge t 64 with h|h
    ·exact h
    ·rw [Nat.testBit_lt_two_pow (Nat.lt_of_lt_of_le (oE P w) (by have:2 ^ 64<=2 ^ t:=XO (by omega) h;exact this))] at htb;simp at htb
   have hPt:P (64*w+t)=Y8:=by rw [<- iQ P w ht64];exact htb.1
   have hz:∀i,j<=i->i<t->P (64*w+i)=Y6:=λi a c=>by have:=hbit i;rw [hmin i c,iQ P w (by omega)] at this;simp only [ζ a,Bool.and_true] at this;exact this.symm
   have hi3:=skip t htb.2 (by omega) hz;refine (J8 (hI _ _ hi3).1 hy hlow).mono ?_;rintro _ F3 ⟨rfl,e3⟩;obtain rfl:=e3.symm;have ei:i64.wrap (i64.wrap ((64:Int)*(w:Int))+(t:Int))=((64*w+t:Nat):Int):=by rw [aP (x:=(64:Int)*w) (by omega) (by omega),aP (by omega)];omega
   refine ⟨_,rfl,k,#[],cap,rfl,hk,?_⟩;rw [ei];have:=h1 (64*w+t) F2 (by omega) hPt hi3;refine ai.mono (R:=λr F'=>r=.tuple #[]/\Inv (64*w+t+1) F') (by simpa using this) ?_;rintro _ F4 ⟨rfl,hi4⟩;refine ⟨rfl,64 - (t+1),by omega,t+1,y &&& (y - 1),?_,by omega,rfl,Nat.lt_of_le_of_lt Nat.and_le_left hy,λi=> ?_,hi4⟩
   ·have e:u64.wrap ((y:Int) - 1)=((y - 1:Nat):Int):=by have:=hlow.pos;rw [mH (by omega) (by omega)];omega
    rw [e,wO hy (by omega)]
   ·rw [hlow.clear,hbit i];by_cases hit:i<t
    ·have:=hmin i hit;rw [hbit i] at this;rw [this];simp;omega
    ·by_cases e:i=t
     ·subst e;simp
     ·have:j<=i:=by omega
      simp [this,e];omega
  ·have hy0:y=0:=by omega
   subst hy0;unfold CM;refine ⟨8 - (w+1),by omega,w+1,fz (by omega),h8,rfl,?_⟩;rw [show 64*(w+1)=64*w+64 by omega];refine skip 64 hj (W8 _) λi a c=> ?_;have:=hbit i;rw [Nat.zero_testBit,iQ P w c] at this;simp only [ζ a,Bool.and_true] at this;exact this.symm
 ·obtain rfl:w=8:=by omega
  exact ⟨rfl,hi1⟩
end
end
open Go.ChangeShapes Go.WideShapes Go.ChangeAt Go.RowKit
set_option maxRecDepth 100000
abbrev sc:List (String×DataW Unit):=[("math/bits.deBruijn64tab",Rows.laid_math_bits_deBruijn64tab)]
theorem se:prog.cellsOf 5=1:=by kernel_rfl
theorem T2:ownKnob prog.godebug=Y5:=by kernel_rfl
theorem J9:laidOutB prog=Y8:=by kernel_rfl
theorem OX:(Rows.laid_math_bits_deBruijn64tab:DataW Unit)=.agg (yr.map λ(n:Nat)=> .lit (.int .u8 (n:Int))):=by kernel_rfl
theorem yg {W:World} (h:laidMetH prog sc W):Tab (hF W):=by
 intro r v hv;have hr:r<64:=(N6.1 hv).1;rw [MakeChecks.laidMetH_plain _ _ _ (by kernel_rfl)] at h;obtain ⟨ps,⟨g,t,cs,fuel,p,q,hg,ht,hw,hd,_,_⟩,_,_⟩:=h;obtain rfl:=Xy ((show prog.globalNamed "math/bits.deBruijn64tab"=Y3 0 by kernel_rfl).symm.trans hg);obtain rfl:=Xy ((show (prog.globals[0]?).map (·.type)=Y3 262 by kernel_rfl).symm.trans ht);obtain ⟨xs,m,_,ex,_,hl,hel⟩:=DataW.trod_array underlying262 hd;have hE:=hel r hr;rw [se,Xz,N5 (by omega)] at hE;obtain ⟨z,e1,e2,_⟩:=DataW.trod_int underlying5 hE;rw [OX] at ex;have e3:(xs.map (·.1))=yr.map λ(n:Nat)=> .lit (.int .u8 (n:Int)):=(DataW.agg.inj (Prod.mk.inj ex).1).symm;have e4:(xs.map (·.1))[r]? =(yr.map λ(n:Nat)=>(DataW.lit (.int .u8 (n:Int)):DataW Unit))[r]? :=by rw [e3]
 rw [Xj,Xj,N5 (by omega:r<xs.length),hv,e2] at e4;have hz:z=(v:Int):=by simp only [XT,Option.some.injEq,DataW.lit.injEq,Lit.int.injEq,true_and] at e4;exact e4
 refine C9 ?_;rw [World.var?_cell hg hw r,<- hz];have:cs.toList[r]? =Y3 (.int .u8 z):=by
  have h0:((cs.toList.drop r).take 1)[0]? =Y3 (.int .u8 z):=by rw [e1];rfl
  simpa using h0
 simpa using this
theorem Hk (os:Os) (args:Γ):laidMetH prog sc ((World.laidAll prog os sc).forCall (λ_ _=>0) ⟨#[],args,[]⟩).memory:=by rw [MakeChecks.laidMetH_plain _ _ _ (by kernel_rfl)];exact laidMet_laidAll _ (by kernel_rfl) (by kernel_rfl)
open Go.Deep
section
section
variable {H:Type} {enc:TypeId×ξ->H} {P:Program} {W:World}
theorem Hl {t e fuel:Nat} {k:IntKind} {c:ξ} {x:DataW H×List MemPlace} (ht:P.underlying t=Y3 (.slice e)) (he:P.underlying e=Y3 (.int k)) (hc:P.cellsOf e=1)
  (h:DataW.trod enc P W 0 (λ_=>Y8) Y8 fuel t [c]=Y3 x) (hw:(x.1.weights P t).all (·<=reachBytes)=Y8):
  ∃(sl:Sl) (zs:Φ),c=Y7 sl/\RdS (hF W) sl 1 (zs.map (Value.int k))/\(∀z∈zs,(Lit.int k z).wf=Y8)/\sl.len*P.bytesOf e<=reachBytes/\sl.cap*P.bytesOf e<=reachBytes:=by
 rcases open_slice1 ht hc h with ⟨hcs,rfl⟩|⟨a,len,cap,m,n,V,D,Pl,hcs,_,hl,hm,hmm,rfl,hx⟩
 ·cases hcs;exact ⟨Zi,[],rfl,RdS.nil _ _,by simp,by simp [Zi],by simp [Zi]⟩
 ·cases hcs;simp only [if_true] at hmm;subst hmm;have hz:∀i,i<m->∃z,V i=.int k z/\(Lit.int k z).wf=Y8:=λi hi=>by obtain ⟨z,h1,_,h3⟩:=DataW.trod_int he (hx i hi).2;exact ⟨z,by simpa using h1,h3⟩
  obtain ⟨Z,hZ⟩:=choose_lt hz;have hb:m*P.bytesOf e<=reachBytes:=by simp only [DataW.weights,ht,YL,XJ,δ,Xd,XI] at hw;rw [show len+(m - len)=m by omega] at hw;exact hw.1
  refine ⟨⟨Y3 a,len,m⟩,(List.range len).map Z,rfl,⟨by simp,hl,λhp=> ?_⟩,?_,X4 (Yb _ hl) hb,hb⟩
  ·have hs:=World.cell?_spot (hx 0 (by simp only at hp;omega)).1;obtain ⟨b,o,spot⟩:=a;simp only [Zb] at hs;subst hs;refine ⟨b,o,rfl,λi hi=> ?_⟩;simp at hi;have:=C9 (hx i (by omega)).1;rw [(hZ i (by omega)).1] at this;rw [aE] at this;simpa using this
  ·intro z hz;simp only [Xi,XN] at hz;obtain ⟨i,hi,rfl⟩:=hz;exact (hZ i (by omega)).2
end
theorem OY {z:Int} (h:(Lit.int .u8 z).wf=Y8):0<=z/\z<=255:=bounds_u8 h
theorem Ka {F:PH} {sl:Sl} {zs:Φ} (h:RdS F sl 1 (zs.map (Value.int .u8))) (hb:sl.len*prog.bytesOf 5<=reachBytes):zs.length<=9000000000000000:=by
 have:=h.len;rw [Xd] at this;have e:prog.bytesOf 5=1:=by kernel_rfl
 have e2:reachBytes=140737488351232:=rfl;rw [e,e2] at hb;omega
class Mem (α:Type) where
 n:Nat
 rep:PH->α->Γ->Prop
 len:∀{F:PH} {x:α} {c:Γ},rep F x c->c.size=n
 le:∀{F G:PH} {x:α} {c:Γ},F.le G->rep F x c->rep G x c
 st:∀{F:PH} {x:α} {c:Γ},rep F x c->∀v∈c.toList,ak v
def cat (vs:List Γ):Ξ:=vs.flatMap Array.toList
theorem bI (c:Γ) (vs:List Γ):cat (c::vs)=c.toList++cat vs:=rfl
theorem bY (a b:List Γ):cat (a++b)=cat a++cat b:=by simp [cat]
theorem cJ (c:Γ):cat [c]=c.toList:=by simp [cat]
inductive cZ {α:Type} [Mem α] (F:PH):List α->List Γ->Prop
 |nil:cZ F [] []
 |cons {x:α} {c:Γ} {l:List α} {vs:List Γ}:Mem.rep F x c->cZ F l vs->cZ F (x::l) (c::vs)
namespace cZ
section
variable {α:Type} [Mem α] {F G:PH} {l m:List α} {vs ws:List Γ}
theorem le (hl:F.le G) (h:cZ F l vs):cZ G l vs:=by
 induction h with
 |nil=>exact .nil
 |cons h _ ih=>exact .cons (Mem.le hl h) ih
theorem cat_len (h:cZ F l vs):(cat vs).length=l.length*Mem.n α:=by
 induction h with
 |nil=>simp [cat]
 |cons h _ ih=>rw [bI,Xa,ih,Xb,Mem.len h,Xl,Yo,Nat.add_comm]
theorem append (h:cZ F l vs) (k:cZ F m ws):cZ F (l++m) (vs++ws):=by
 induction h with
 |nil=>exact k
 |cons h _ ih=>exact .cons h ih
theorem st (h:cZ F l vs):∀v∈cat vs,ak v:=by
 induction h with
 |nil=>intro v hv;cases hv
 |cons h _ ih=>
  intro v hv;rw [bI,W9] at hv;rcases hv with hv|hv
  ·exact Mem.st h v hv
  ·exact ih v hv
theorem get (h:cZ F l vs):∀{i:Nat} {x:α},l[i]? =Y3 x->∃c,vs[i]? =Y3 c/\Mem.rep F x c/\((cat vs).drop (i*Mem.n α)).take (Mem.n α)=c.toList:=by
 induction h with
 |nil=>intro i x hx;simp at hx
 | @cons y c l vs h h2 ih=>
  intro i x hx;have hlen:=Mem.len h;cases i with
  |zero=>simp at hx;subst hx;refine ⟨c,rfl,h,?_⟩;rw [Yf,XK,bI,Xs (by simp [hlen]),Xf (by simp [hlen])]
  |succ i=>simp at hx;obtain ⟨d,h3,h4,h5⟩:=ih hx;refine ⟨d,by simpa using h3,h4,?_⟩;rw [bI,Yo,List.drop_append,List.drop_eq_nil_of_le (by simp [hlen]),XM];rw [show i*Mem.n α+Mem.n α - c.toList.length=i*Mem.n α by simp [hlen]];exact h5
theorem take (h:cZ F l vs) (k:Nat):cZ F (l.take k) (vs.take k):=by
 induction h generalizing k with
 |nil=>simp only [List.take_nil];exact .nil
 |cons h _ ih=>
  cases k with
  |zero=>exact .nil
  |succ k=>exact .cons h (ih k)
theorem drop (h:cZ F l vs) (k:Nat):cZ F (l.drop k) (vs.drop k):=by
 induction h generalizing k with
 |nil=>simp only [List.drop_nil];exact .nil
 |cons h h2 ih=>
  cases k with
  |zero=>exact .cons h h2
  |succ k=>exact ih k
theorem cat_take (h:cZ F l vs) (k:Nat):(cat vs).take (k*Mem.n α)=cat (vs.take k):=by
 induction h generalizing k with
 |nil=>simp [cat]
 |cons h _ ih=>
  cases k with
  |zero=>simp [cat]
  |succ k=>have hlen:=Mem.len h;rw [List.take_succ_cons,bI,bI,Yo,List.take_append,Xf (by simp [hlen])];congr 1;rw [show k*Mem.n α+Mem.n α - (Array.toList _).length=k*Mem.n α by simp [hlen]];exact ih k
theorem cat_drop (h:cZ F l vs) (k:Nat):(cat vs).drop (k*Mem.n α)=cat (vs.drop k):=by
 induction h generalizing k with
 |nil=>simp [cat]
 |cons h _ ih=>
  cases k with
  |zero=>simp [cat]
  |succ k=>have hlen:=Mem.len h;rw [YO,bI,Yo,List.drop_append,List.drop_eq_nil_of_le (by simp [hlen]),XM];rw [show k*Mem.n α+Mem.n α - (Array.toList _).length=k*Mem.n α by simp [hlen]];exact ih k
theorem set (h:cZ F l vs) {i:Nat} {x:α} {c:Γ} (hc:Mem.rep F x c):cZ F (l.set i x) (vs.set i c):=by
 induction h generalizing i with
 |nil=>simp only [List.set_nil];exact .nil
 |cons h h2 ih=>
  cases i with
  |zero=>exact .cons hc h2
  |succ i=>exact .cons h ih
end
end cZ
def RL {α:Type} [Mem α] (F:PH) (s:Sl) (l:List α):Prop:=∃vs,cZ F l vs/\RdS F s (Mem.n α) (cat vs)
namespace RL
section
variable {α:Type} [Mem α] {F G:PH} {s:Sl} {l:List α}
theorem le (h:RL F s l) (hl:F.le G):RL G s l:=by obtain ⟨vs,h1,h2⟩:=h;exact ⟨vs,h1.le hl,h2.le hl⟩
theorem nil (F:PH):RL F Zi ([]:List α):=⟨[],.nil,RdS.nil F _⟩
theorem len (h:RL F s l) (hn:0<Mem.n α:=by decide):s.len=l.length:=by obtain ⟨vs,h1,h2⟩:=h;have:=h2.len;rw [h1.cat_len] at this;exact (Nat.eq_of_mul_eq_mul_right hn this).symm
theorem cap (h:RL F s l):s.len<=s.cap:=by obtain ⟨vs,h1,h2⟩:=h;exact h2.cap
theorem get (h:RL F s l) (hn:0<Mem.n α) {i:Nat} {x:α} (hx:l[i]? =Y3 x):∃a c,s.YZ=Y3 a/\F.row (a.add (i*Mem.n α)) c/\Mem.rep F x c:=by
 obtain ⟨vs,h1,h2⟩:=h;obtain ⟨c,h3,h4,h5⟩:=h1.get hx;have hi:i<l.length:=(N6.1 hx).1;have hlen:=h2.len;rw [h1.cat_len] at hlen;have hp:0<s.len:=by have:=Nat.eq_of_mul_eq_mul_right hn hlen;omega
 obtain ⟨b,o,hb,_⟩:=h2.cells hp;refine ⟨⟨b,o,Y5⟩,c,hb,h2.row hb _ c ?_,h4⟩;rw [Mem.len h4];exact h5.symm
end
end RL
instance:Mem Int where
 n:=1
 rep _ x c:=c= #[vi x]
 len h:=by rw [h];rfl
 le _ h:=h
 st h:=by rw [h];simp [ak]
instance:Mem ο where
 n:=1
 rep _ x c:=c= #[.string x]
 len h:=by rw [h];rfl
 le _ h:=h
 st h:=by rw [h];simp [ak]
instance:Mem Br where
 n:=3
 rep _ x c:=c=aZ x
 len h:=by rw [h];rfl
 le _ h:=h
 st h:=by rw [h];simp [ak]
instance:Mem Nd where
 n:=5
 rep _ x c:=c=x.arr
 len h:=by rw [h];rfl
 le _ h:=h
 st h:=by rw [h];simp [ak]
structure Sy where
 t:Bool
 i:Int
deriving DecidableEq
abbrev Sy.arr (x:Sy):Γ:= #[.bool x.t,vi x.i]
instance:Mem Sy where
 n:=2
 rep _ x c:=c=x.arr
 len h:=by rw [h];rfl
 le _ h:=h
 st h:=by rw [h];simp [ak]
structure Cn where
 k:Int
 a:Int
 b:Int
deriving DecidableEq
abbrev Cn.arr (x:Cn):Γ:= #[vi x.k,vi x.a,vi x.b]
instance:Mem Cn where
 n:=3
 rep _ x c:=c=x.arr
 len h:=by rw [h];rfl
 le _ h:=h
 st h:=by rw [h];simp [ak]
theorem RL.flat {α:Type} [Mem α] {f:α->Γ} (hf:∀F x c,Mem.rep F x c↔c=f x) {F:PH} {s:Sl} {l:List α}:RL F s l↔RdS F s (Mem.n α) (l.flatMap λx=>(f x).toList):=by
 have key:∀(l:List α) (vs:List Γ),cZ F l vs↔vs=l.map f:=by
  intro l;induction l with
  |nil=>intro vs;exact ⟨λh=>by cases h;rfl,λh=>by rw [h];exact .nil⟩
  |cons x l ih=>
   intro vs;constructor
   ·intro h;cases h with
    |cons h1 h2=>rw [(hf _ _ _).1 h1,(ih _).1 h2];rfl
   ·intro h;rw [h];exact .cons ((hf _ _ _).2 rfl) ((ih _).2 rfl)
 have e:cat (l.map f)=l.flatMap λx=>(f x).toList:=by simp [cat,List.flatMap_map]
 constructor
 ·rintro ⟨vs,h1,h2⟩;rw [(key l vs).1 h1,e] at h2;exact h2
 ·intro h;exact ⟨_,(key l _).2 rfl,by rw [e];exact h⟩
theorem RL.brs {F:PH} {s:Sl} {l:List Br}:RL F s l↔RdS F s 3 (aW l):=RL.flat (f:=aZ) (λ_ _ _=>Iff.rfl)
theorem RL.nds {F:PH} {s:Sl} {l:List Nd}:RL F s l↔RdS F s 5 (dW l):=RL.flat (f:=Nd.arr) (λ_ _ _=>Iff.rfl)
theorem Np {α:Type} (f:α->ξ) (l:List α):(l.flatMap λx=>(#[f x]:Γ).toList)=l.map f:=by
 induction l with
 |nil=>rfl
 |cons x l ih=>rw [XS,ih];rfl
theorem RL.ints {F:PH} {s:Sl} {l:Φ}:RL F s l↔RdS F s 1 (l.map vi):=by rw [RL.flat (f:=λx=> #[vi x]) (λ_ _ _=>Iff.rfl),Np];rfl
theorem RL.strs {F:PH} {s:Sl} {l:List ο}:RL F s l↔RdS F s 1 (l.map Value.string):=by rw [RL.flat (f:=λx=> #[.string x]) (λ_ _ _=>Iff.rfl),Np];rfl
theorem DV.mk {F:PH} {s:Sl} {d:Dia} (h:RL F s d.1):DV F #[s.v,vi d.2] d:=⟨s,rfl,RL.brs.1 h⟩
structure Tk where
 name:ο
 cls:Int
 lit:ο
 pat:List Nd
 smp:ο
 cond:Dia
structure Sco where
 o:Bool
 d:Int
 k:Int
 u:Int
 a:Int
deriving DecidableEq
structure Pr where
 name:ο
 left:Int
 right:List Sy
 cond:Dia
 brk:Bool
 rank:Int
 lay:List Cn
 sco:Sco
structure Lv where
 ps:Φ
 assoc:Int
 cond:Dia
structure Fi where
 k:Int
 par:Int
 pos:Int
 ch:Int
 left:Int
 tok:Int
 YX:Φ
 cond:Dia
structure Gr where
 YY:List ο
 fam:Dia
 YX:List Tk
 YW:List ο
 YV:List Pr
 start:Int
 lvs:List Lv
 fils:List Fi
deriving instance DecidableEq for Tk,Pr,Lv,Fi,Gr
abbrev Tk.arr (x:Tk) (p n:Sl):Γ:= #[.string x.name,vi x.cls,.string x.lit,p.v,.string x.smp,n.v,vi x.cond.2]
abbrev Pr.arr (x:Pr) (r n l:Sl):Γ:= #[.string x.name,vi x.left,r.v,n.v,vi x.cond.2,.bool x.brk,vi x.rank,l.v,.bool x.sco.o,vi x.sco.d,vi x.sco.k,vi x.sco.u,vi x.sco.a]
abbrev Lv.arr (x:Lv) (p n:Sl):Γ:= #[p.v,vi x.assoc,n.v,vi x.cond.2]
abbrev Fi.arr (x:Fi) (t n:Sl):Γ:= #[vi x.k,vi x.par,vi x.pos,vi x.ch,vi x.left,vi x.tok,t.v,n.v,vi x.cond.2]
abbrev Gr.arr (g:Gr) (c n t s p l f:Sl):Γ:= #[c.v,n.v,vi g.fam.2,t.v,s.v,p.v,vi g.start,l.v,f.v]
instance:Mem Tk where
 n:=7
 rep F x c:=∃p n,c=x.arr p n/\RL F p x.pat/\RL F n x.cond.1
 len h:=by obtain ⟨p,n,rfl,_⟩:=h;rfl
 le hl h:=by obtain ⟨p,n,h1,h2,h3⟩:=h;exact ⟨p,n,h1,h2.le hl,h3.le hl⟩
 st h:=by obtain ⟨p,n,rfl,_⟩:=h;simp [ak,Y7]
instance:Mem Pr where
 n:=13
 rep F x c:=∃r n l,c=x.arr r n l/\RL F r x.right/\RL F n x.cond.1/\RL F l x.lay
 len h:=by obtain ⟨r,n,l,rfl,_⟩:=h;rfl
 le hl h:=by obtain ⟨r,n,l,h1,h2,h3,h4⟩:=h;exact ⟨r,n,l,h1,h2.le hl,h3.le hl,h4.le hl⟩
 st h:=by obtain ⟨r,n,l,rfl,_⟩:=h;simp [ak,Y7]
instance:Mem Lv where
 n:=4
 rep F x c:=∃p n,c=x.arr p n/\RL F p x.ps/\RL F n x.cond.1
 len h:=by obtain ⟨p,n,rfl,_⟩:=h;rfl
 le hl h:=by obtain ⟨p,n,h1,h2,h3⟩:=h;exact ⟨p,n,h1,h2.le hl,h3.le hl⟩
 st h:=by obtain ⟨p,n,rfl,_⟩:=h;simp [ak,Y7]
instance:Mem Fi where
 n:=9
 rep F x c:=∃t n,c=x.arr t n/\RL F t x.YX/\RL F n x.cond.1
 len h:=by obtain ⟨p,n,rfl,_⟩:=h;rfl
 le hl h:=by obtain ⟨p,n,h1,h2,h3⟩:=h;exact ⟨p,n,h1,h2.le hl,h3.le hl⟩
 st h:=by obtain ⟨p,n,rfl,_⟩:=h;simp [ak,Y7]
structure GS (F:PH) (g:Gr) (c n t s p l f:Sl):Prop where
 c:RL F c g.YY
 n:RL F n g.fam.1
 t:RL F t g.YX
 s:RL F s g.YW
 p:RL F p g.YV
 l:RL F l g.lvs
 f:RL F f g.fils
theorem GS.le {F G:PH} {g:Gr} {c n t s p l f:Sl} (h:GS F g c n t s p l f) (hl:F.le G):GS G g c n t s p l f:=
 ⟨h.c.le hl,h.n.le hl,h.t.le hl,h.s.le hl,h.p.le hl,h.l.le hl,h.f.le hl⟩
def GV (F:PH) (v:Γ) (g:Gr):Prop:=∃c n t s p l f,v=g.arr c n t s p l f/\GS F g c n t s p l f
theorem GV.le {F G:PH} {v:Γ} {g:Gr} (h:GV F v g) (hl:F.le G):GV G v g:=by obtain ⟨c,n,t,s,p,l,f,h1,h2⟩:=h;exact ⟨c,n,t,s,p,l,f,h1,h2.le hl⟩
theorem GV.size {F:PH} {v:Γ} {g:Gr} (h:GV F v g):v.size=9:=by obtain ⟨c,n,t,s,p,l,f,rfl,_⟩:=h;rfl
theorem GV.st {F:PH} {v:Γ} {g:Gr} (h:GV F v g):∀x∈v.toList,ak x:=by obtain ⟨c,n,t,s,p,l,f,rfl,_⟩:=h;simp [ak,Y7]
variable {R:VR} {F:PH}
set_option maxHeartbeats 4000000
def CS (a:Sl) (R:VR) (F:PH):Prop:=Bc ((a.len:Int)=0) (R (vi 40) F) (R (vi 0) F)
def CT (f:Ω) (b c:Sl) (R:VR) (a:Int) (F:PH):Prop:=Bc (a<(i64.wrap ((b.len:Int) - 1))) (Ix c a λd=>Li F (Zb d (Zd a*1)) λe=>Bc (e≠1) (R (vi 40) F) (f (i64.wrap (a+1)) F)) (CS b R F)
def CU (b a:Sl) (R:VR) (F:PH):Prop:=Lp 0 F λN c F=>CT N b a R c F
def pZ (c:Ω) (_ _:Sl) (a:Int) (_:VR) (F:PH):Prop:=c (i64.wrap (a+1)) F
def p5 (j:Ω) (d a:Sl) (c e:Int) (R:VR) (F:PH):Prop:=Bc (2<=e) (Ix d c λf=>Li F (Zb (Zb f (Zd c*5)) 4) λb=>Ix a b λg=>Li F (Zb g (Zd b*1)) λh=>Ix a b λi=>sto F (Zb i (Zd b*1)) (vi (i64.wrap (h+1))) λF=>pZ j d a c R F) (pZ j d a c R F)
def CV (n:Ω) (c a:Sl) (R:VR) (b:Int) (F:PH):Prop:=Bc (b<(c.len:Int)) (Cbo 211 #[Y7 c,(vi b)] F λg F=>Bb ((!g)) (R (vi 40) F) (Ix c b λh=>Li F (Zb h (Zd b*5)) λi=>ν 212 #[(vi i)] F λv F=>∃d,∃f,v=(.tuple #[(vi d),.bool f])/\Bc (1<=d) (Ix c b λj=>Li F (Zb (Zb j (Zd b*5)) 3) λe=>Ix a e λk=>Li F (Zb k (Zd e*1)) λl=>Ix a e λm=>sto F (Zb m (Zd e*1)) (vi (i64.wrap (l+1))) λF=>p5 n c a b d R F) (p5 n c a b d R F))) (CU c a R F)
def Nq (a:Sl) (R:VR) (F:PH):Prop:=Bc ((512:Int)<(a.len:Int)) (R (vi 2) F) (aF prog (Instr.makeSlice 67 (vi (a.len:Int)) (vi (a.len:Int))) F λv F=>∃b,v=(Y7 b)/\Lp 0 F λN c F=>CV N a b R c F)
theorem T3 {a:Sl} (h:Nq a R F):ν 198 #[Y7 a] F R:=Rx.Λ (.Y2 (.Y2 (.Y2 (.J Y6 [] (.Y2 (.L [(4,.int .i64)] (.Y2 (.J Y6 [] (.Y2 (.Y2 (.J Y6 [] .N .N))) .N)))) (.J Y6 [] (.Y2 (.L [(7,.int .i64)] .N)) .N))))) h
def Nr (a:Sl) (b:ο) (R:VR) (F:PH):Prop:=Ci 198 #[Y7 a] F λe F=>Bc (e=0) (Nb F (Y4 #[(vi 0)] 3) λf F=>Cs 214 #[Y7 a,(vi (i64.wrap ((a.len:Int) - 1))),.string b,Y7 (Sb f 1)] F λc F=>Cbo 213 #[Y7 c,(vi (b.size:Int))] F λd F=>R (.bool d) F) (R (.bool Y6) F)
theorem T4 {a:Sl} {b:ο} (h:Nr a b R F):ν 199 #[Y7 a,.string b] F R:=Rx.Λ .N h
def jY (d:Int) (e:Nat) (a:Int) (R:VR) (F:PH):Prop:=Bc (a<1) (Bc (a<2) (R (.bool Y8) F) (Li F (Am e 4) λf=>Bc (0<=f) (Li F (Am e 4) λg=>R (.bool (decide (g<d))) F) (R (.bool Y6) F))) (Li F (Am e 3) λh=>Bc (0<=h) (Li F (Am e 3) λi=>Bc (i<d) (Bc (a<2) (R (.bool Y8) F) (Li F (Am e 4) λb=>Bc (0<=b) (Li F (Am e 4) λc=>R (.bool (decide (c<d))) F) (R (.bool Y6) F))) (R (.bool Y6) F)) (R (.bool Y6) F))
def p6 (b:Int) (d:Nat) (a:Int) (R:VR) (F:PH):Prop:=Bc (a<1) (Li F (Am d 3) λe=>Bc (e≠0) (R (.bool Y6) F) (Bc (a<2) (Li F (Am d 4) λf=>Bc (f≠0) (R (.bool Y6) F) (jY b d a R F)) (jY b d a R F))) (Bc (a<2) (Li F (Am d 4) λc=>Bc (c≠0) (R (.bool Y6) F) (jY b d a R F)) (jY b d a R F))
def Nt (s:Sl) (d:Int) (R:VR) (F:PH):Prop:=Ix s d λi=>Lr F 5 (Zb i (Zd d*5)) λj=>Nb F (Y4 (#[vi 0,vi 0,vi 0,vi 0,vi 0]) 149) λa F=>au F (Am a 0) 5 j λF=>Li F (Am a 0) λk=>ν 212 #[(vi k)] F λv F=>∃c,∃b,v=(.tuple #[(vi c),.bool b])/\Bb ((!b)) (R (.bool Y6) F) (Li F (Am a 0) λl=>Bc (l≠1) (Li F (Am a 1) λm=>Bc (m≠0) (R (.bool Y6) F) (Li F (Am a 2) λn=>Bc (n≠0) (R (.bool Y6) F) (Li F (Am a 1) λo=>Bc (o<0) (R (.bool Y6) F) (Li F (Am a 1) λp=>Li F (Am a 2) λq=>Bc (q<p) (R (.bool Y6) F) (Li F (Am a 2) λr=>Bc (255<r) (R (.bool Y6) F) (p6 d a c R F)))))) (Li F (Am a 1) λe=>Bc (e<0) (R (.bool Y6) F) (Li F (Am a 1) λf=>Li F (Am a 2) λg=>Bc (g<f) (R (.bool Y6) F) (Li F (Am a 2) λh=>Bc (255<h) (R (.bool Y6) F) (p6 d a c R F)))))
theorem T5 {a:Sl} {b:Int} (h:Nt a b R F):ν 211 #[Y7 a,(vi b)] F R:=Rx.Λ (.Y2 (.Y2 (.Y2 (.J Y6 [] .N (.J Y6 [] .N .N))))) h
def p7 (a:Int) (b:Bool) (R:VR) (F:PH):Prop:=Bb (b) (R (.tuple #[(vi 0),.bool Y8]) F) (Bc (a=4) (R (.tuple #[(vi 1),.bool Y8]) F) (Bc (a=2) (Bc (a=2) (R (.tuple #[(vi 2),.bool Y8]) F) (R (.tuple #[(vi 0),.bool Y6]) F)) (Bc (a=3) (R (.tuple #[(vi 2),.bool Y8]) F) (R (.tuple #[(vi 0),.bool Y6]) F))))
def Nu (a:Int) (R:VR) (F:PH):Prop:=Bc (a=0) (p7 a (decide (a=0)) R F) (p7 a (decide (a=1)) R F)
theorem T6 {a:Int} (h:Nu a R F):ν 212 #[(vi a)] F R:=Rx.Λ (.Y2 (.T (.Y2 (.J Y6 [(5,.bool)] .N .N)) .N)) h
def CW (R:VR) (F:PH):Prop:=R (.bool Y6) F
def CX (f:Ω) (b:Sl) (e:Int) (R:VR) (a:Int) (F:PH):Prop:=Bc (a<(b.len:Int)) (Ix b a λc=>Li F (Zb c (Zd a*1)) λd=>Bc (d=e) (R (.bool Y8) F) (f (i64.wrap (a+1)) F)) (CW R F)
def Nv (a:Sl) (b:Int) (R:VR) (F:PH):Prop:=Lp 0 F λN c F=>CX N a b R c F
theorem T7 {a:Sl} {b:Int} (h:Nv a b R F):ν 213 #[Y7 a,(vi b)] F R:=Rx.Λ (.Y2 (.J Y6 [] (.Y2 (.L [(5,.int .i64)] .N)) .N)) h
def CY (a:Sl) (R:VR) (F:PH):Prop:=R (Y7 a) F
def CZ (h:Sl->Ω) (f:Sl) (g:ο) (i:Nat) (R:VR) (a:Sl) (e:Int) (F:PH):Prop:=Bc (e<(a.len:Int)) (Li F (Am i 3) λb=>Cs 214 #[Y7 f,(vi b),.string g,Y7 a] F λc F=>Cs 217 #[Y7 a,Y7 c] F λd F=>h d (a.len:Int) F) (CY a R F)
def C0 (e:Sl) (f:ο) (b:Sl) (h:Nat) (R:VR) (F:PH):Prop:=(∃(g:Nat->Sl->Ω) (d:Nat),g d b (-1:Int) F/\∀d a c F,g d a c F-> CZ (nx2 g d) e f h R a c F)
def C1 (a:Sl) (R:VR) (F:PH):Prop:=R (Y7 a) F
def p9 (d:Sl->Ω) (_:ο) (_:Sl) (_:Nat) (b:Int) (a:Sl) (_:VR) (F:PH):Prop:=d a (i64.wrap (b+1)) F
def mA (j:Sl->Ω) (d:ο) (b:Sl) (k:Nat) (a:Sl) (c:Int) (e:Bool) (R:VR) (F:PH):Prop:=Bb (e) (Ix b c λf=>Li F (Zb f (Zd c*1)) λg=>Nb F (Y4 #[(vi (i64.wrap (g+1)))] 3) λi F=>Ap 67 #[Y7 a,Y7 (Sb i 1)] F λh F=>p9 j d b k c h R F) (p9 j d b k c a R F)
def wF (p:Sl->Ω) (d:ο) (a:Sl) (i:Nat) (R:VR) (b:Sl) (c:Int) (F:PH):Prop:=Bc (c<(a.len:Int)) (Ix a c λj=>Li F (Zb j (Zd c*1)) λk=>Bc (k<(d.size:Int)) (Ix a c λl=>Li F (Zb l (Zd c*1)) λe=>0<=e/\e<(d.size:Int)/\∃(hx:Zd e<d.size) (g:Int),g=((d[Zd e]'hx).toNat:Int)/\Li F (Am i 1) λm=>Bc (m<=(i64.wrap g)) (Ix a c λn=>Li F (Zb n (Zd c*1)) λf=>0<=f/\f<(d.size:Int)/\∃(hx:Zd f<d.size) (h:Int),h=((d[Zd f]'hx).toNat:Int)/\Li F (Am i 2) λo=>mA p d a i b c (decide ((i64.wrap h)<=o)) R F) (mA p d a i b c Y6 R F)) (mA p d a i b c Y6 R F)) (C1 b R F)
def uo (d:Sl) (j:Int) (e:ο) (a:Sl) (R:VR) (F:PH):Prop:=Ix d j λk=>Lr F 5 (Zb k (Zd j*5)) λl=>Nb F (Y4 (#[vi 0,vi 0,vi 0,vi 0,vi 0]) 149) λf F=>au F (Am f 0) 5 l λF=>Nb F (Y4 #[] 3) λu F=>Li F (Am f 0) λc=>Bc (c=0) (R (Y7 a) F) (Bc (c=1) ((∃(v:Nat->Sl->Ω) (t:Nat),v t (Sb u 0) 0 F/\∀t b g F,v t b g F-> wF (nx2 v t) e a f R b g F)) (Bc (c=2) (Li F (Am f 4) λh=>Li F (Am f 3) λm=>Cs 214 #[Y7 d,(vi m),.string e,Y7 a] F λn F=>F.cell (Am f 4)=Y3 (vi h)/\Cs 214 #[Y7 d,(vi h),.string e,Y7 n] F λo F=>R (Y7 o) F) (Bc (c=3) (Li F (Am f 3) λp=>Li F (Am f 4) λi=>Cs 214 #[Y7 d,(vi p),.string e,Y7 a] F λq F=>F.cell (Am f 4)=Y3 (vi i)/\Cs 214 #[Y7 d,(vi i),.string e,Y7 a] F λr F=>Cs 217 #[Y7 q,Y7 r] F λs F=>R (Y7 s) F) (C0 d e a f R F))))
theorem yh {b:Sl} {c:Int} {d:ο} {a:Sl} (h:uo b c d a R F):ν 214 #[Y7 b,(vi c),.string d,Y7 a] F R:=Rx.Λ (.Y2 (.Y2 (.Y2 (.J Y6 [] (.Y2 (.Y2 (.Y2 (.Y2 (.T (.J Y6 [(10,.sl)] (.Y2 (.L [(10,.sl),(11,.int .i64)] (.Y2 (.J Y6 [(10,.sl)] (.J Y6 [(61,.bool)] .N .N) .N)))) .N) .N))))) (.Y2 (.Y2 (.J Y6 [(10,.sl)] (.L [(10,.sl),(12,.int .i64)] .N) .N))))))) h
def C2 (a:Sl) (R:VR) (F:PH):Prop:=R (Y7 a) F
def qe (d:Sl->Ω) (_:Sl) (b:Int) (a:Sl) (_:VR) (F:PH):Prop:=d a (i64.wrap (b+1)) F
def C3 (k:Sl->Ω) (b:Sl) (R:VR) (a:Sl) (c:Int) (F:PH):Prop:=Bc (c<(b.len:Int)) (Ix b c λd=>Li F (Zb d (Zd c*1)) λe=>Cbo 213 #[Y7 a,(vi e)] F λf F=>Bb ((!f)) (Ix b c λg=>Li F (Zb g (Zd c*1)) λh=>Nb F (Y4 #[(vi h)] 3) λj F=>Ap 67 #[Y7 a,Y7 (Sb j 1)] F λi F=>qe k b c i R F) (qe k b c a R F)) (C2 a R F)
def Nw (e b:Sl) (R:VR) (F:PH):Prop:=Nb F (Y4 #[] 3) λh F=>Ap 67 #[Y7 (Sb h 0),Y7 e] F λf F=>(∃(g:Nat->Sl->Ω) (d:Nat),g d f 0 F/\∀d a c F,g d a c F-> C3 (nx2 g d) b R a c F)
theorem T8 {b:Sl} {a:Sl} (h:Nw b a R F):ν 217 #[Y7 b,Y7 a] F R:=Rx.Λ (.Y2 (.Y2 (.J Y6 [(5,.sl)] (.Y2 (.L [(5,.sl),(6,.int .i64)] (.Y2 (.J Y6 [(5,.sl)] .N .N)))) .N))) h
end

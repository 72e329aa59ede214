/-
  A reader of code. Part 6: regions in any order; code; functions.
-/
import Derived.Test.YtcemhghkipgdiaaGreatDoorPht
namespace Go.Proofs.YtcemhghkipgdiaaGreatDoor.Rx
open Go
section
variable {P:Program} {σ:Sy} {E:En} {F:PH} {x y:Operand} {o:Oper}
theorem Pe {α β:Type} {f:α->β} {l:List α} {a b:β} (h:l.map f=[a,b]):∃x y,l=[x,y]/\f x=a/\f y=b:=by
 rcases l with _|⟨x,_|⟨y,_|⟨z,l⟩⟩⟩<;>simp at h
 exact ⟨x,y,rfl,h⟩
theorem Pf {α β:Type} {f:α->β} {l:List α} {a b c:β} (h:l.map f=[a,b,c]):∃x y z,l=[x,y,z]/\f x=a/\f y=b/\f z=c:=by
 rcases l with _|⟨x,_|⟨y,_|⟨z,_|⟨u,l⟩⟩⟩⟩<;>simp at h
 exact ⟨x,y,z,rfl,h⟩
theorem eO {b:Bool} {K:Prop} (h:okN b K):b=true/\K:=by cases b;exact h.elim;exact ⟨rfl,h⟩
theorem vd {d:TypeDesc} (h:kdD d=.agg):kE d=true:=by cases d<;>simp [kdD] at h<;>rfl
theorem pv {d:TypeDesc} (h:kdD d≠.agg):kE d=false:=by cases d<;>first|rfl|exact absurd rfl h
theorem Ik {t:TypeId} {a:Addr} {K:NV->(Ψ)->Prop} (h:Mv P t a F K) (r:Rel σ E) (ho:o.op=.load t x) (hx:ev E x=.pointer (some a)):
  ∃nv v c,c F/\(∀F':PH,c F'->RD P E F' o v)/\(∀T,js T nv v)/\K nv c:=by
 unfold Mv at h;split at h
 ·exact h.elim
 ·rename_i d hd;split at h
  ·rename_i hk;split at h
   ·rename_i n b hz;obtain ⟨v,rfl,hr,h⟩:=h;exact ⟨.sv (.c (.agg v)),.agg v,λF=>F.row a v,hr,λF' hr=>HR ho hx hd (vd hk) hz hr,λ_=>rfl,h⟩
   ·exact h.elim
  ·rename_i hk;obtain ⟨v,hc,h⟩:=h;exact ⟨_,_,_,hc,λF' hc=>HQ ho hx hd (pv hk) hc,λ_=>qZ _ v,h⟩
theorem iw {y:Option Operand} {dflt:Nat} {K:Nat->Prop} (h:vj σ y dflt K) (r:Rel σ E):∃l,dI (y.map (ev E)) dflt l/\K l:=by
 unfold vj at h;split at h
 ·exact ⟨dflt,u7,h⟩
 ·rename_i y;split at h
  ·rename_i k i hw;split at h
   ·split at h
    ·rename_i hi;exact ⟨_,JH (ovc r hw) (of_decide_eq_true hi),h⟩
    ·exact h.elim
   ·exact ⟨_,JH (ovc r hw) h.1,h.2⟩
  ·exact h.elim
theorem qW {place:Nat->Option (Nat×Nat)} {n:Nat} (r:Rel σ E):∀(l:List (Nat×Operand)) (cs:Γ) {K:Γ->Prop},cs.size=n->bld σ place n l cs K->
  ∃res,Instr.fill place cs (l.map λp=>(p.1,ev E p.2))=some res/\K res
 |[],cs,K,_,h=>⟨cs,rfl,h⟩
 | (i,x)::l,cs,K,hn,h=>by
  unfold bld at h;split at h
  ·exact h.elim
  ·rename_i off s hp;have one:∀{v:Value},ev E x=v->v.cells= #[v]->Nat.beq s 1=true->Nat.blt off n=true->bld σ place n l (cs.setIfInBounds off v) K->
     ∃res,Instr.fill place cs (((i,x)::l).map λp=>(p.1,ev E p.2))=some res/\K res:=by
    clear h;intro v hx hc hs ho h;obtain rfl:=Wa hs;obtain ⟨res,h1,h2⟩:=qW r l _ (by simpa using hn) h;refine ⟨res,?_,h2⟩;rw [Vi];show Instr.fill place cs ((i,ev E x)::_)=_;rw [hx];exact JF hp hc (by rw [hn];exact ho) h1
   split at h
   ·rename_i c hw;split at h
    ·rename_i ho;obtain ⟨hs,h⟩:=h;obtain ⟨res,h1,h2⟩:=qW r l _ (by rw [dW];exact hn) h;refine ⟨res,?_,h2⟩;rw [Vi];show Instr.fill place cs ((i,ev E x)::_)=_;rw [ovc r hw];exact JG hp hs (by rw [hn];exact ho) h1
    ·exact h.elim
   ·rename_i v hna hw;split at h
    ·rename_i h1 h2;exact one (ovc r hw) (by cases v<;>first|rfl|exact absurd rfl (hna _)) h1 h2 h
    ·exact h.elim
   ·exact h.elim
   ·rename_i w hna hnc hnn;split at h
    ·rename_i v h1 h2 hv;refine one (bl r rfl hv) ?_ h1 h2 h;cases hw:σ.ov x<;>rw [hw] at hv<;>simp only [VW.val] at hv<;>first|(cases hv;done)|(cases hv;rfl)|(exact absurd hw (hna _))|(exact absurd hw (hnc _))|exact absurd hw (hnn _)
    ·exact h.elim
variable {K:RK}
theorem y7.of (r:Rel σ E) (h:C3 P E o λv=>K σ v none):y7 P E F o K:=by obtain ⟨nv,v,h1,h2,h3⟩:=h;exact .pure h1 r h3 (h2 _)
theorem ER (h:sxR P σ o F K) (r:Rel σ E):y7 P E F o K:=by
 cases ho:o.op<;>simp only [sxR,ho] at h<;>try exact h.elim
 case move x=>exact .pure (λF=>L6 ho rfl) r h (t4 r x)
 case assign x=>exact .pure (λF=>Ea ho rfl) r h (t4 r x)
 case pick c a b=>
  split at h
  ·rename_i hc;exact .pure (λF=>uZ ho (bl r hc rfl) (λ_=>rfl) (λh=>by cases h)) r h (t4 r a)
  ·rename_i hc;exact .pure (λF=>uZ ho (bl r hc rfl) (λh=>by cases h) (λ_=>rfl)) r h (t4 r b)
  ·exact h.elim
 case nilCheck x=>
  split at h
  ·rename_i hw;refine .pure (λF=>xk ho (ovc r hw)) r h ?_;show okV _ _ _;rw [<- ovc r hw];exact t4 r x
  ·obtain ⟨σ',a,r',hx,h⟩:=kM h r;exact .pure (λF=>yI ho hx) r' h rfl
 case extract x i=>
  split at h
  ·rename_i vs hw;split at h
   ·rename_i v hv;exact .pure (λF=>tO ho (ovc r hw) hv) r h (E9 _ v)
   ·exact h.elim
  ·rename_i w hw;obtain ⟨v,hv,h⟩:=h;exact .pure (λF=>tO ho (bl r hw rfl) hv) r h (qZ _ v)
  ·exact h.elim
 case fieldAddr t x i=>
  split at h
  ·rename_i fs ht;split at h
   ·rename_i f hf;split at h
    ·rename_i s b hz;obtain ⟨σ',a,r',hx,h⟩:=kM h r;exact .pure (λF=>xo ho hx ht hf hz (by omega)) r' h rfl
    ·exact h.elim
   ·exact h.elim
  ·exact h.elim
 case load t x=>
  obtain ⟨σ',a,r',hx,h⟩:=kM h r;obtain ⟨nv,v,c,h1,h2,h3,h⟩:=Ik h r' ho hx;exact .chk h1 h2 r' h (h3 _)
 case indexAddr t x y=>
  split at h
  ·rename_i k i e hy ht;split at h
   ·rename_i base len cap s b hx hz;obtain ⟨a,rfl,h1,h2,h⟩:=h;exact .pure (λF=>sM ho (ovc r hx) (ovc r hy) ht hz h1 (by exact_mod_cast h2)) r h rfl
   ·exact h.elim
  ·rename_i k i n e hy ht;split at h
   ·rename_i s b hz;obtain ⟨σ',a,r',hx,h1,h2,h⟩:=kM h r;exact .pure (λF=>sN ho hx (ovc r hy) ht hz h1 (by exact_mod_cast h2)) r' h rfl
   ·exact h.elim
  ·exact h.elim
 case index t x y=>
  split at h
  ·rename_i s k i hx hy ht;obtain ⟨h1,h2,h3,v,rfl,h⟩:=h;exact .pure (λF=>yM ho (ovc r hx) (ovc r hy) ht h1 (by exact_mod_cast h2)) r h rfl
  ·rename_i cs k i n e hx hy ht;split at h
   ·rename_i d s b hd hz;split at h
    ·exact h.elim
    ·rename_i hk;obtain ⟨h1,h2,v,hv,h⟩:=h;exact .pure (λF=>xp ho (ovc r hx) (ovc r hy) ht hz hd (pv hk) h1 (by exact_mod_cast h2) hv) r h (qZ _ v)
   ·exact h.elim
  ·exact h.elim
 case field t x i=>
  split at h
  ·rename_i cs fs hx ht;split at h
   ·rename_i f hf;split at h
    ·rename_i d s b hd hz;split at h
     ·rename_i hk;exact .pure (λF=>Ef ho (ovc r hx) ht hf hd (vd hk) hz) r h rfl
     ·rename_i hk;obtain ⟨v,hv,h⟩:=h;exact .pure (λF=>Ee ho (ovc r hx) ht hf hd (pv hk) hv) r h (qZ _ v)
    ·exact h.elim
   ·exact h.elim
  ·exact h.elim
 case binOp op t x y t'=>exact .of r (Fb h r ho)
 case unOp op t x=>
  split at h
  ·rename_i b hx;exact .pure (λF=>Ec ho (bl r hx rfl)) r h rfl
  ·rename_i i b hx;exact .pure (λF=>Ec ho (bl r hx rfl)) r h rfl
  ·rename_i i p d hx;refine .pure (v:=.bool (@decide (¬p) (@instDecidableNot p d))) (λF=> ?_) r h rfl;have:=Ec (P:=P) (F:=F) ho (bl r hx rfl);rw [show (!@decide p d)= @decide (¬p) (@instDecidableNot p d) by cases d<;>rfl] at this;exact this
  ·rename_i k a hx;exact .pure (λF=>Og ho (ovc r hx)) r h rfl
  ·exact h.elim
 case convert t t' x=>
  split at h
  ·rename_i k a d k' hx ht ht';exact .pure (λF=>CQ ho (ovc r hx) ht ht') r h rfl
  ·rename_i b l c e hx ht ht';split at h
   ·rename_i he;obtain ⟨s,hs,h⟩:=h;exact .chk hs (λF' hs=>EG ho (ovc r hx) ht ht' he ⟨_,_,_,rfl⟩ hs) r h rfl
   ·exact h.elim
  ·exact h.elim
 case slice t x lo hi mx=>
  split at h
  ·rename_i e ht;split at h
   ·rename_i b len cap sz z hx hz;obtain ⟨l,hl,h⟩:=iw h r;obtain ⟨u,hu,h1,h2,h⟩:=iw h r;exact .pure (λF=>CS (s:=⟨b,len,cap⟩) ho (ovc r hx) ht hz hl hu h1 h2) r h rfl
   ·exact h.elim
  ·rename_i ht;split at h
   ·rename_i s hx;obtain ⟨l,hl,h⟩:=iw h r;obtain ⟨u,hu,h1,h2,h⟩:=iw h r;exact .pure (λF=>yO ho (ovc r hx) ht hl hu h1 h2) r h rfl
   ·exact h.elim
  ·rename_i n e ht;split at h
   ·rename_i sz z hz;obtain ⟨σ',a,r',hx,h⟩:=kM h r;exact .pure (λF=>tS ho hx ht hz u7 u7 (Nat.zero_le _) (UW _)) r' h rfl
   ·rename_i sz z hz hnn;obtain ⟨σ',a,r',hx,h⟩:=kM h r;obtain ⟨l,hl,h⟩:=iw h r';obtain ⟨u,hu,h1,h2,h⟩:=iw h r';exact .pure (λF=>tS ho hx ht hz hl hu h1 h2) r' h rfl
   ·exact h.elim
  ·rename_i e m ht;split at h
   ·rename_i b len cap sz z k i k' m' hx hz hhi hm;obtain ⟨l,hl,h0,hm0,h1,h2,h3,h⟩:=iw h r;cases hi with
    |none=>simp at hhi
    |some hi=>simp only [VD,Option.some.injEq] at hhi;exact .pure (λF=>yN (s:=⟨b,len,cap⟩) ho (ovc r hx) ht hz hl (ovc r hhi) (ovc r hm) h0 hm0 h1 h2 h3) r h rfl
   ·exact h.elim
  ·exact h.elim
 case build t parts=>
  split at h
  ·rename_i fs z ht hz;obtain ⟨hk,h⟩:=eO h;obtain ⟨res,h1,h⟩:=qW r _ _ rfl h;exact .pure (λF=>sO ho ht hz hk (by simp) h1) r h rfl
  ·rename_i n e z ht hz;split at h
   ·rename_i s b hs;obtain ⟨res,h1,h⟩:=qW r _ _ rfl h;exact .pure (λF=>u0 ho ht hz hs (by simp) h1) r h rfl
   ·exact h.elim
  ·exact h.elim
 case makeFunc fn first cap=>
  cases fn<;>simp only at h<;>try exact h.elim
  obtain ⟨us,h1,h⟩:=jO r _ h;obtain ⟨vs,h2,h⟩:=jO r _ h;have h1':first.map (ev E)=us.toArray:=by rw [<- h1,<- Array.toList_map,Array.toArray_toList]
  have h2':cap.map (ev E)=vs.toArray:=by rw [<- h2,<- Array.toList_map,Array.toArray_toList]
  exact .pure (λF=>yJ ho h1' h2') r h rfl
 case lookup t x y ok=>
  split at h
  ·rename_i u v kt e hu hv ht;split at h
   ·obtain ⟨q,b,h1,h⟩:=h;exact .chk h1 (λF' h1=>xu ho (bl r rfl hu) (bl r rfl hv) h1) r h rfl
   ·obtain ⟨q,h1,h⟩:=h;exact .chk h1 (λF' h1=>xu ho (bl r rfl hu) (bl r rfl hv) h1) r h (qZ _ q)
  ·exact h.elim
 case entry x=>
  split at h
  ·rename_i u hu;obtain ⟨w,h1,h⟩:=h;exact .chk h1 (λF' h1=>Ij ho (bl r rfl hu) h1) r h rfl
  ·exact h.elim
 case call c=>
  obtain ⟨cal,args,ts⟩:=c;obtain ⟨args⟩:=args;obtain ⟨ts⟩:=ts;cases cal<;>simp only at h<;>try exact h.elim
  rename_i b;split at h
  ·rename_i bs l cp t heq;obtain ⟨x,rfl,hx⟩:=V9.1 heq;split at h
   ·rename_i ht;exact .pure (λF=>HO (s:=⟨bs,l,cp⟩) ho (ovc r hx) ht) r h rfl
   ·exact h.elim
  ·rename_i s t heq;obtain ⟨x,rfl,hx⟩:=V9.1 heq;split at h
   ·rename_i ht;exact .pure (λF=>Ed ho (ovc r hx) ht) r h rfl
   ·exact h.elim
  ·rename_i m t heq;obtain ⟨x,rfl,hx⟩:=V9.1 heq;obtain ⟨v,h1,h⟩:=h;exact .chk h1 (λF' h1=>EH ho (ovc r hx) h1) r h rfl
  ·rename_i bs l cp t heq;obtain ⟨x,rfl,hx⟩:=V9.1 heq;split at h
   ·rename_i ht;exact .pure (λF=>HP (s:=⟨bs,l,cp⟩) ho (ovc r hx) ht) r h rfl
   ·exact h.elim
  ·rename_i k a k' b' heq;obtain ⟨x,y,rfl,hx,hy⟩:=Pe heq;obtain ⟨hk,h'⟩:=eO h;obtain rfl:=of_decide_eq_true hk;exact .pure (λF=>Mb ho (ovc r hx) (ovc r hy)) r h' rfl
  ·rename_i k a k' b' heq;obtain ⟨x,y,rfl,hx,hy⟩:=Pe heq;obtain ⟨hk,h'⟩:=eO h;obtain rfl:=of_decide_eq_true hk;exact .pure (λF=>Mc ho (ovc r hx) (ovc r hy)) r h' rfl
  ·rename_i k a k' b' k'' c' heq;obtain ⟨x,y,z,rfl,hx,hy,hz⟩:=Pf heq;obtain ⟨hk,h'⟩:=eO h;obtain ⟨rfl,rfl⟩:=of_decide_eq_true hk;exact .pure (λF=>Md ho (ovc r hx) (ovc r hy) (ovc r hz)) r h' rfl
  ·rename_i k a k' b' k'' c' heq;obtain ⟨x,y,z,rfl,hx,hy,hz⟩:=Pf heq;obtain ⟨hk,h'⟩:=eO h;obtain ⟨rfl,rfl⟩:=of_decide_eq_true hk;exact .pure (λF=>Me ho (ovc r hx) (ovc r hy) (ovc r hz)) r h' rfl
  ·exact h.elim
end
end Go.Proofs.YtcemhghkipgdiaaGreatDoor.Rx
namespace Go.Proofs.YtcemhghkipgdiaaGreatDoor.Rx
open Go
theorem Mr {F:PH} {b:Nat} {o:Obj} (hb:F b=none):F.le (F.set b o):=λx u hx=>by
 have:x≠b:=λe=>by rw [e,hb] at hx;cases hx
 rw [yQ _ _ this];exact hx
section
variable {P:Program} {σ:Sy} {E:En} {F:PH} {x y z:Operand} {o:Oper}
def KK (F:PH) (E:En) (o:Oper) (K:EK) (E':En) (F':PH):Prop:=∃fl σ',(fl=true->F.le F')/\Rel σ' E'/\(∀t,o.dst≠some t->E' t=E t)/\K fl σ' F'
def Ms (P:Program) (E:En) (F:PH) (o:Oper) (K:EK):Prop:=aG P (execOp (ev E) o) F (bO P (KK F E o K) o E)
theorem px {d:Option Tmp} {v:Value} {t:Nat} (h:d≠some t):cQ E d v t=E t:=by
 cases d with
 |none=>rfl
 |some d=>simp only [cQ,upd,kH (λe:t=d=>h (by rw [e]))];rfl
variable {K:EK}
theorem KK.mk {nv:NV} {v:Value} {F':PH} {fl:Bool} (r:Rel σ E) (h:K fl (σ.putO o.dst nv) F') (hv:js σ.T nv v) (hl:fl=true->F.le F'):KK F E o K (cQ E o.dst v) F':=
 ⟨fl,_,hl,r.putO hv,λ_ ht=>px ht,h⟩
theorem KK.f {nv:NV} {v:Value} {F':PH} (r:Rel σ E) (h:K false (σ.putO o.dst nv) F') (hv:js σ.T nv v):KK F E o K (cQ E o.dst v) F':=KK.mk r h hv (λh=>by cases h)
theorem iz {ob:Obj} {s:Nat->SV} {v:Nat->Value} (h:sxN σ o.dst ob s F K) (r:Rel σ E) (hv:∀b,okV σ.T (s b) (v b)):∀b,F b=none->KK F E o K (cQ E o.dst (v b)) (F.set b ob):=
 λb hb=>KK.mk r (atE (h b hb)) (hv b) (λ_=>Mr hb)
theorem Il {d:Option Tmp} {t:TypeId} {v:Value} {K:Sy->Prop} (h:xE P σ d t v K) (r:Rel σ E):∃σ',Rel σ' (cQ E d v)/\K σ':=by
 unfold xE at h;split at h
 ·exact ⟨σ,r,h⟩
 ·rename_i d;split at h
  ·split at h
   ·obtain ⟨rfl,h⟩:=h;exact ⟨_,r.put (show js σ.T (.sv (.c (.tuple _))) _ from rfl),h⟩
   ·obtain ⟨a,rfl,h⟩:=h;exact ⟨_,r.put (show js σ.T (.sv (.c (.tuple _))) _ from rfl),h⟩
   ·obtain ⟨a,b,rfl,h⟩:=h;exact ⟨_,r.put (show js σ.T (.sv (.c (.tuple _))) _ from rfl),h⟩
   ·obtain ⟨a,b,c,rfl,h⟩:=h;exact ⟨_,r.put (show js σ.T (.sv (.c (.tuple _))) _ from rfl),h⟩
   ·obtain ⟨a,b,c,e,rfl,h⟩:=h;exact ⟨_,r.put (show js σ.T (.sv (.c (.tuple _))) _ from rfl),h⟩
   ·exact h.elim
  ·obtain ⟨a,rfl,h⟩:=h;exact ⟨_,r.put (qZ _ a),h⟩
theorem yY {t:TypeId} {v:Value} {F':PH} (h:xE P σ o.dst t v λσ=>K false σ F') (r:Rel σ E):KK F E o K (cQ E o.dst v) F':=by obtain ⟨σ',r',h⟩:=Il h r;exact ⟨false,σ',(λh=>by cases h),r',λ_ ht=>px ht,h⟩
theorem py {w:VW} {v:Value} (hv:w.val=some v) (h1:∀c,w≠.c (.agg c)) (h2:∀u,w≠.any u):v.cells= #[v]:=by
 cases w<;>simp only [VW.val] at hv<;>first|(cases hv;done)|(cases hv;rfl)|exact absurd rfl (h2 _)|skip
 rename_i u;cases hv;cases v<;>first|rfl|exact absurd rfl (h1 _)
theorem ES {w:VW} {v:Value} (hv:w.val=some v) (h1:∀c,w≠.c (.agg c)) (h2:∀u,w≠.any u) (h3:∀u,w≠.c (.tuple u)) (h4:∀u,w≠.vt u) (h5:w≠.und):ak v:=by
 cases w<;>simp only [VW.val] at hv<;>first|(cases hv;done)|exact absurd rfl (h2 _)|exact absurd rfl (h4 _)|exact absurd rfl h5|skip
 all_goals cases hv
 case c.refl=>exact ⟨λc e=>h1 c (by rw [e]),λc e=>h3 c (by rw [e])⟩
 all_goals exact ⟨(λ_ h=>by cases h),(λ_ h=>by cases h)⟩
theorem Bq (r:Rel σ E):∀(l:List (Nat×Operand)) (k:Nat) {us:Ξ},Iq σ k l=some us->(l.map λp=>(p.1,ev E p.2))=A0 k us/\HV us/\us.length=l.length
 |[],k,us,h=>by cases h;exact ⟨rfl,trivial,rfl⟩
 | (i,x)::l,k,us,h=>by
  unfold Iq at h;split at h
  ·cases h
  ·cases h
  ·rename_i hi h1 h2;split at h
   ·rename_i v vs hv hs;cases h;obtain ⟨e1,e2,e3⟩:=Bq r l _ hs;obtain rfl:=Wa hi;refine ⟨?_,⟨py hv (λc e=>h1 c e) (λu e=>h2 u e),e2⟩,by simp [e3]⟩;rw [Vi,e1];show (i,ev E x)::_=(i,v)::_;rw [bl r rfl hv]
   ·cases h
  ·cases h
theorem ET {t:TypeId} {s:ByteArray} {K:En->Ψ} (ho:o.op=.range t x) (hx:ev E x=.string s) (h1:P.underlying t=some .string) (h:∀b,F b=none->K (cQ E o.dst (.pointer (some ⟨b,0,none⟩))) (F.set b (.stringIter s 0))):
  aG P (execOp (ev E) o) F (bO P K o E):=by
 simp only [execOp,ho,hx,Instr.range,aA,bW h1,aN,newObj,aG,bO];exact h
theorem EU {t:TypeId} {v:Value} {K:En->Ψ} (ho:o.op=.range t x) (hx:ev E x=v) (h:aG P (Instr.range t v) F λr F'=>K (cQ E o.dst r) F'):aG P (execOp (ev E) o) F (bO P K o E):=by simp only [execOp,ho,hx,aA,aN,bO];exact h
theorem Mt {v:Value} {is:Bool} {K:En->Ψ} (ho:o.op=.next x is) (hx:ev E x=v) (h:aG P (Instr.next v is o.type) F λr F'=>K (cQ E o.dst r) F'):aG P (execOp (ev E) o) F (bO P K o E):=by simp only [execOp,ho,hx,aA,aN,bO];exact h
theorem EV {t:TypeId} {u v q:Value} {K:En->Ψ} (ho:o.op=.insert t x y z) (hx:ev E x=u) (hy:ev E y=v) (hz:ev E z=q)
  (h:aG P (Instr.mapUpdate t u v q) F λ_ F'=>K (cQ E o.dst undef) F'):aG P (execOp (ev E) o) F (bO P K o E):=by
 subst hx hy hz;have:execOp (ev E) o=execOp (ev E) {o with op:=.mapUpdate t x y z}:=by simp only [execOp,ho]
 rw [this];exact ox (o:={o with op:=.mapUpdate t x y z}) rfl rfl rfl rfl h
theorem EW {ts:Array TypeId} {u v:Value} {K:En->Ψ} (ho:o.op=.call ⟨.builtin .delete,#[x,y],ts⟩) (hx:ev E x=u) (hy:ev E y=v) (h:aG P (Builtin.delete_ ts o.type #[u,v]) F λr F'=>K (cQ E o.dst r) F'):
  aG P (execOp (ev E) o) F (bO P K o E):=by
 simp [execOp,ho,resolve,hx,hy,invoke,builtin,bO];exact h
theorem EX (h:sxE P σ o F K) (r:Rel σ E):Ms P E F o K:=by
 cases ho:o.op<;>simp only [sxE,ho] at h<;>try exact h.elim
 case alloc t=>
  split at h
  ·rename_i z hz;exact HS ho hz (iz h r (λ_=>rfl))
  ·exact h.elim
 case box t x=>
  split at h
  ·rename_i c hw;exact Eh ho (ovc r hw) (iz h r (λ_=>rfl))
  ·rename_i v hw;obtain ⟨hc,h⟩:=h;rw [<- hc] at h;exact Eh ho (bl r hw rfl) (iz h r (λ_=>rfl))
  ·rename_i h1 h2;split at h
   ·rename_i v hv;have hc:v.cells= #[v]:=py hv (λc e=>h1 c e) (λu e=>h2 u e);rw [<- hc] at h;exact Eh ho (bl r rfl hv) (iz h r (λ_=>rfl))
   ·exact h.elim
 case buildSlice t m parts=>
  split at h
  ·rename_i e ht;split at h
   ·rename_i s b z hz hzz;split at h
    ·rename_i hm hs h0;have hm':m*s<=16777216:=Wt hm;have hs':z.cells.size=s:=Wa hs;split at h
     ·rename_i l h1 h2 hl;obtain rfl:=Wa h1;obtain ⟨e1,e2,e3⟩:=Bq r _ _ hl;exact ip ho ht hz hm' hzz (by simpa using e1) (HW (by rw [e3];exact Wa h2) rfl hs' e2) (by rw [hs']) (iz h r (λ_=>rfl))
     ·split at h
      ·rename_i c heq hn;obtain ⟨hcs,h⟩:=h;obtain ⟨p,hp,hpe⟩:=V9.1 heq;obtain ⟨i,x⟩:=p;simp only [WN] at hpe;obtain ⟨rfl,hx⟩:=hpe;exact ip (vs:=[(0,.agg c)]) ho ht hz hm' hzz (by simp [hp,ovc r hx]) (CT hcs hs' h0) (by rw [hs']) (iz h r (λ_=>rfl))
      ·obtain ⟨res,e1,h⟩:=qW r _ _ (by rw [<- pe _ (by rw [hs'];exact h0)];simp [Builtin.zeroCells,hs']) h;refine ip (vs:=parts.toList.map λp=>(p.1,ev E p.2)) ho ht hz hm' hzz (by simp) (cells:=res) ?_ (by rw [hs']) (iz h r (λ_=>rfl));rw [pe _ (by rw [hs'];exact h0)];exact e1
    ·exact h.elim
   ·exact h.elim
  ·exact h.elim
 case store t x y=>
  obtain ⟨σ',a,r',hx,h⟩:=kM h r;have st:∀{v:Value} {b:Nat},ev E y=v->tsz P t=some (1,b)->v.cells= #[v]->ak v->sto F a v (λF=>K false (σ'.putO o.dst (.sv .und)) F)->Ms P E F o K:=by intro v b hy hz hc hst ⟨c,e,h1,h2,h3,h4⟩;exact Ei ho hx hy hz hc rfl hst h2 h1 h3 (KK.f r' (atE h4) rfl)
  split at h
  ·rename_i v n b hy hz;obtain ⟨h1,h2,c,e,h3,h4,h5,h6⟩:=h;refine Ej ho hx (ovc r' hy) hz h1 h2 (λh0=> ?_) h4 h3 h5 (KK.f r' (atE h6) rfl);have:v.toList.length=0:=by rw [h0];rfl
   simp at this;simp [this] at h1
  ·exact h.elim
  ·rename_i v b hna hnt hy hz;exact st (ovc r' hy) hz (py (w:=.c v) rfl (λc e=>hna c (by cases e;rfl)) (λu e=>by cases e)) (ES (w:=.c v) rfl (λc e=>hna c (by cases e;rfl)) (λu e=>by cases e) (λc e=>hnt c (by cases e;rfl)) (λu e=>by cases e) (λe=>by cases e)) h
  ·rename_i v b hy hz;exact st (bl r' hy rfl) hz h.2.1 h.1 h.2.2
  ·exact h.elim
  ·exact h.elim
  ·rename_i b hz h2 h3 h4 h5 h6 h7;split at h
   ·rename_i v hv;exact st (bl r' rfl hv) hz (py hv (λc e=>h2 c e) (λu e=>h5 u e)) (ES hv (λc e=>h2 c e) (λu e=>h5 u e) (λc e=>h3 c e) (λu e=>h6 u e) (λe=>h7 e)) h
   ·exact h.elim
  ·exact h.elim
 case range t x=>
  split at h
  ·rename_i s ht hx;exact ET ho (ovc r hx) ht (iz h r (λ_=>rfl))
  ·split at h
   ·rename_i v hv;exact EU ho (bl r rfl hv) (dh _ _ h λu F' ⟨b,hb,h⟩=>by subst hb;exact KK.f r h rfl)
   ·exact h.elim
  ·exact h.elim
 case next x is=>
  split at h
  ·rename_i v hv;exact Mt ho (bl r rfl hv) (dh _ _ h λu F' ⟨b,hb,h⟩=>by subst hb;exact KK.f r h rfl)
  ·exact h.elim
 case makeSlice t x y=>
  split at h
  ·rename_i u v hu hv;exact xr ho (bl r rfl hu) (bl r rfl hv) (dh _ _ h λu F' ⟨b,hb,h⟩=>by subst hb;exact KK.f r h rfl)
  ·exact h.elim
 case makeMap t q=>
  cases q<;>simp only at h<;>try exact h.elim
  exact yR ho (iz h r (λ_=>rfl))
 case mapUpdate t x y z=>
  split at h
  ·rename_i u v w hu hv hw;exact ox ho (bl r rfl hu) (bl r rfl hv) (bl r rfl hw) (dh _ _ h λu F' h=>KK.f r h rfl)
  ·exact h.elim
 case insert t x y z=>
  split at h
  ·rename_i u v w hu hv hw;exact EV ho (bl r rfl hu) (bl r rfl hv) (bl r rfl hw) (dh _ _ h λu F' h=>KK.f r h rfl)
  ·exact h.elim
 case defer c=>
  obtain ⟨cal,args,ts⟩:=c;obtain ⟨args⟩:=args;cases cal with
  |value g=>
   obtain ⟨us,h1,h⟩:=jO r _ h;split at h
   ·rename_i f a b hg;exact HU ho (ovc r hg) (by rw [<- h1];simp) h.1 (KK.f r h.2 rfl)
   ·exact h.elim
  |_=>exact h.elim
 case call c=>
  obtain ⟨cal,args,ts⟩:=c;obtain ⟨args⟩:=args;cases cal with
  |invoke=>exact h.elim
  |builtin b=>
   simp only at h;split at h
   ·split at h
    ·rename_i x y u v hu hv;exact Ek ho (bl r rfl hu) (bl r rfl hv) (dh _ _ h λu F' ⟨b,hb,h⟩=>by subst hb;exact KK.f r h rfl)
    ·exact h.elim
   ·split at h
    ·rename_i x y u v hu hv;exact Mg ho (bl r rfl hu) (bl r rfl hv) (dh _ _ h λu F' ⟨b,hb,h⟩=>by subst hb;exact KK.f r h rfl)
    ·exact h.elim
   ·split at h
    ·rename_i x y u v hu hv;exact EW ho (bl r rfl hu) (bl r rfl hv) (dh _ _ h λu F' h=>KK.f r h True.intro)
    ·exact h.elim
   ·exact h.elim
  |value g=>
   have cF:∀(h:ve σ args λvs=>(match σ.ov g with
     | .c (.func (.func f) a b)=>okN (aE P f) (ai P f (a++vs.toArray++b) F λv F=>xE P σ o.dst o.type v λσ=>K false σ F)
     | .any u=>∃(k:Nat) (a b:Γ),u=.func (.func k) a b/\aE P k=true/\ai P k (a++vs.toArray++b) F λv F=>xE P σ o.dst o.type v λσ=>K false σ F
     |_=>False)),Ms P E F o K:=by
    intro h;obtain ⟨us,h1,h⟩:=jO r _ h;split at h
    ·rename_i f a b hg;obtain ⟨hc,h⟩:=eO h;exact AZ ho (ovc r hg) hc (by rw [<- h1];simp) (h.mono λv F' h=>yY h r)
    ·rename_i u hg;obtain ⟨f,a,b,rfl,hc,h⟩:=h;exact AZ ho (bl r hg rfl) hc (by rw [<- h1];simp) (h.mono λv F' h=>yY h r)
    ·exact h.elim
   cases g with
   |func f=>obtain ⟨us,h1,h⟩:=jO r _ h;obtain ⟨hc,h⟩:=eO h;exact Mf ho hc (by rw [<- h1];simp) (h.mono λv F' h=>yY h r)
   |_=>exact cF h
end
end Go.Proofs.YtcemhghkipgdiaaGreatDoor.Rx
namespace Go.Proofs.YtcemhghkipgdiaaGreatDoor.Rx
open Go
section
variable {P:Program} {σ:Sy} {E:En} {F:PH} {n:Nat} {ops:Array Oper}
def Fr (M:Δ) (E E':En):Prop:=∀t,oS M t=false->E' t=E t
theorem xA {a b:Δ} {t:Nat}:oS (a++b) t=false↔oS a t=false/\oS b t=false:=by
 induction a with
 |nil=>simp [oS]
 |cons x a ih=>simp only [VF,oS];cases Nat.beq t x<;>simp [ih]
theorem Fr.refl {M:Δ} {E:En}:Fr M E E:=λ_ _=>rfl
theorem Fr.trans {M:Δ} {E E' E'':En} (h:Fr M E E') (h':Fr M E' E''):Fr M E E'':=λt ht=>(h' t ht).trans (h t ht)
theorem Fr.left {a b:Δ} {E E':En} (h:Fr a E E'):Fr (a++b) E E':=λt ht=>h t (xA.1 ht).1
theorem Fr.right {a b:Δ} {E E':En} (h:Fr b E E'):Fr (a++b) E E':=λt ht=>h t (xA.1 ht).2
theorem qX {M:Δ} {d:Nat} (h:d∈M) {t:Nat} (ht:oS M t=false):t≠d:=by
 induction M with
 |nil=>cases h
 |cons x M ih=>
  simp only [oS] at ht;intro e;subst e;rcases UT.1 h with rfl|h
  ·have:Nat.beq t t=true:=by simp
   rw [this] at ht;cases ht
  ·cases hb:Nat.beq t x<;>rw [hb] at ht
   ·exact ih h ht rfl
   ·cases ht
theorem yZ {M:Δ} {d:Option Tmp} {v:Value} (h:∀t,d=some t->t∈M):Fr M E (cQ E d v):=λt ht=>px λe=>qX (h t e) ht rfl
theorem xB {l:List Oper} {o:Oper} {d:Nat} (ho:o∈l) (hd:o.dst=some d):d∈E6 l:=by
 induction l with
 |nil=>cases ho
 |cons x l ih=>
  unfold E6;rcases UT.1 ho with rfl|ho
  ·rw [hd];exact VY ..
  ·split
   ·exact Ve _ (ih ho)
   ·exact ih ho
def QK (M:Δ) (E0:En) (K:CK):Exit->En->Ψ:=λex E F=>(∃σ,Rel σ E/\K ex σ F)/\Fr M E0 E
inductive GOk (ops:Array Oper) (σ:Sy) (E:En) (o:Oper):G->Prop
 |go (h:Region.wanted o (yE ops E)=true):GOk ops σ E o .go
 |no (h:Region.wanted o (yE ops E)=false):GOk ops σ E o .no
 |split (i:Nat) (b:SB) (want v:Bool) (hi:σ.T i=some b) (hv:b.v=.bool v) (h:Region.wanted o (yE ops E)=(v==want)):GOk ops σ E o (.split i b want)
 |bad:GOk ops σ E o .bad
theorem Ki {j t:Nat} (hj:(ops[j]?).bind (·.dst)=some t):yE ops E j=(match E t with| .bool b=>some b|_=>none):=by unfold yE;rw [hj];rfl
theorem cX (r:Rel σ E) {t:Nat} {w:VW} {v:Value} (hw:σ.vw t=w) (hv:w.val=some v):E t=v:=Kj (r.val t) (by rw [<- hw] at hv;exact hv)
theorem y4 (r:Rel σ E) (o:Oper):GOk ops σ E o (grd ops σ o):=by
 unfold grd;split
 ·rename_i hg;exact .go (by unfold Region.wanted;rw [hg])
 ·rename_i j want hg;have hwn:∀y,Region.wanted o y=(y j==some want):=λy=>by unfold Region.wanted;rw [hg]
  split
  ·rename_i hn;refine .no ?_;rw [hwn];unfold yE;rw [hn];rfl
  ·rename_i t ht;have hb:∀{b:Bool},E t=.bool b->Region.wanted o (yE ops E)=(b==want):=by intro b hb;rw [hwn,Ki ht,hb];cases b<;>cases want<;>rfl
   split
   ·rename_i b hw;have:=hb (cX r hw rfl);split
    ·rename_i hbw;exact .go (by rw [this];exact hbw)
    ·rename_i hbw;exact .no (by rw [this];exact hbw)
   ·rename_i hw;refine .no ?_;rw [hwn,Ki ht,cX r hw rfl];rfl
   ·rename_i i b hw;exact .split i _ want b (E8 hw) rfl (hb (cX r hw rfl))
   ·rename_i i p d hw;exact .split i _ want _ (Is hw) rfl (hb (cX r hw rfl))
   ·exact .bad
theorem EY {b:SB} {v:Bool} {f:Bool->Prop} (h:spl b f) (hv:b.v=.bool v):f v:=by
 unfold spl at h;split at h
 ·rename_i b;obtain rfl:b=v:=by simpa [SB.v] using hv
  cases b
  ·exact h.2 rfl
  ·exact h.1 rfl
 ·rename_i p d;have: @decide p d=v:=by simpa [SB.v] using hv
  cases v
  ·exact h.2 (of_decide_eq_false this)
  ·exact h.1 (of_decide_eq_true this)
 ·exact h.elim
theorem Mu {Q:Exit->En->Ψ} {o:Oper} {l:List Oper} {K:Sy->Ψ} (hw:Region.wanted o (yE ops E)=true) (hd:fI n o.dst=true) (h:sxO P o K σ F) (r:Rel σ E)
  (k:∀σ' E' F',Rel σ' E'->(∀t,o.dst≠some t->E' t=E t)->K σ' F'->HL P n ops Q l E' F'):HL P n ops Q (o::l) E F:=by
 unfold sxO at h;split at h
 ·obtain ⟨σ',nv,ck,v,hy,r',hv,_,h⟩:=ER h r;exact Ok hy (k _ _ _ (r'.putO hv) (λ_ ht=>px ht) h) hw hd
 ·have:=EX h r;refine JN hw hd (dh _ _ this ?_);intro nx F' hn;cases nx with
  |value v=>obtain ⟨fl,σ',_,r',fr,h⟩:=hn;exact k _ _ _ r' fr h
  |skip=>obtain ⟨fl,σ',_,r',fr,h⟩:=hn;exact k _ _ _ r' fr h
  |enter f args=>exact hn.mono λv F' ⟨fl,σ',_,r',fr,h⟩=>k _ _ _ r' fr h
  |defer d=>obtain ⟨hi,fl,σ',_,r',fr,h⟩:=hn;exact ⟨hi,k _ _ _ r' fr h⟩
  |_=>exact hn
theorem y5 {M:Δ} {E0:En} {K:CK}:∀(l:List Oper) (σ:Sy) (E:En) (F:PH),(∀o∈l,∀t,o.dst=some t->t∈M)->Fr M E0 E->sxL P n ops (K .normal) l σ F->Rel σ E->HL P n ops (QK M E0 K) l E F
 |[],σ,E,F,_,fr,h,r=>Mj ⟨⟨σ,r,h⟩,fr⟩
 |o::l,σ,E,F,hM,fr,h,r=>by
  unfold sxL at h;obtain ⟨hd,h⟩:=eO h;have step:∀{σ:Sy},Rel σ E->Region.wanted o (yE ops E)=true->sxO P o (sxL P n ops (K .normal) l) σ F->HL P n ops (QK M E0 K) (o::l) E F:=λr hw h=>
   Mu hw hd h r λσ' E' F' r' hf h'=>y5 l σ' E' F' (λo ho=>hM o (Ve _ ho))
    (fr.trans λt ht=>hf t λe=>qX (hM o (VY ..) t e) ht rfl) h' r'
  have skip:∀{σ:Sy},Rel σ E->Region.wanted o (yE ops E)=false->sxL P n ops (K .normal) l (σ.putO o.dst (.sv .und)) F->HL P n ops (QK M E0 K) (o::l) E F:=λr hw h=>
   H0 hw hd (y5 l _ _ F (λo ho=>hM o (Ve _ ho)) (fr.trans (yZ λt e=>hM o (VY ..) t e)) h (r.putO rfl))
  have g:=y4 (ops:=ops) r o;revert h g;cases grd ops σ o with
  |go=>intro h g;cases g with|go hw=>exact step r hw h
  |no=>intro h g;cases g with|no hw=>exact skip r hw h
  |bad=>intro h g;exact h.elim
  |split i b want=>
   intro h g;cases g with
   |split _ _ _ v hi hv hw=>
    have h:=EY h hv;have r':Rel (σ.rf i (.lit v)) E:=r.rf hi hv;split at h
    ·rename_i hvw;exact step r' (by rw [hw];exact hvw) h
    ·rename_i hvw;exact skip r' (by rw [hw];exact hvw) h
end
end Go.Proofs.YtcemhghkipgdiaaGreatDoor.Rx
namespace Go.Proofs.YtcemhghkipgdiaaGreatDoor.Rx
open Go
inductive PW:Pn->co->Prop
 |nil:PW [] []
 |cons {i:Nat} {c:Ψ} {S:World->Prop} {pend:Pn} {Sp:co} (h:∀F,c F->yW F S) (t:PW pend Sp):PW ((i,c)::pend) ((i,S)::Sp)
theorem PW.rest {o:Oper} {pend:Pn} {Sp:co} (h:PW pend Sp):PW (pend.filter λp=> !Oper.waits .any o p.1) (co.rest .any o Sp):=by
 induction h with
 |nil=>exact .nil
 |cons h t ih=>
  rename_i i c S pend Sp;unfold co.rest at*;simp only [List.filter_cons];cases Oper.waits .any o i
  ·exact .cons h ih
  ·exact ih
theorem Im {F:PH} {pend:Pn} {Sp:co} (h:PW pend Sp) {K:Prop} (hc:Mw F pend K):fZ Sp F/\K:=by
 induction h with
 |nil=>exact ⟨JI,hc⟩
 |cons h t ih=>exact ⟨JJ (h _ hc.1) (ih hc.2).1,(ih hc.2).2⟩
theorem In {F F':PH} {S:World->Prop} (hl:F.le F') (h:yW F S):yW F' S:=λe w st=>h e w
 ⟨st.os,st.tape,st.output,λb o hb=>st.heap b o (hl b o hb),λb o hb=>⟨(by
  cases hF:F b with
  |none=>rfl
  |some u=>
   have h1:=(st.frame b o hb).1;rw [hl b u hF] at h1
   cases h1),(st.frame b o hb).2⟩⟩
theorem Io {F F':PH} {Sp:co} (hl:F.le F') (h:fZ Sp F):fZ Sp F':=λr hr=>In hl (h r hr)
theorem C0 {F:PH} {o:Oper} {Sp:co} (h:fZ Sp F):fZ (co.rest .any o Sp) F:=λr hr=>h r (Wj.1 hr).1
theorem Bt:∀{l:List Prop},Mx l->∀p∈l,p
 |[],h=>h.elim
 |[p],h=>by intro q hq;rw [UU] at hq;subst hq;exact h
 |p::q::l,h=>by
  intro u hu;rcases UT.1 hu with rfl|hu
  ·exact h.1
  ·exact Bt h.2 u hu
theorem xC {ops:Array Oper} {σ:Sy} {i:Nat} {o:Oper} {g:G}:∀{l:Δ},tZ ops σ l=some (i,o,g)->ops[i]? =some o/\grd ops σ o=g
 |[],h=>by cases h
 |j::l,h=>by
  unfold tZ at h;split at h
  ·cases h
  ·rename_i u hu;split at h
   ·rename_i hg;split at h
    ·cases h;exact ⟨hu,hg⟩
    ·exact xC h
   ·cases h;exact ⟨hu,rfl⟩
theorem xD {ops:Array Oper} {σ:Sy}:∀{l:Δ},tZ ops σ l=none->(∀i∈l,ops[i]?≠none)->∀i∈l,∀o,ops[i]? =some o->grd ops σ o=.go
 |[],_,_=>λi hi=>by cases hi
 |j::l,h,hn=>by
  unfold tZ at h;split at h
  ·rename_i hj;exact absurd hj (hn j (VY ..))
  ·rename_i u hu;split at h
   ·rename_i hg;split at h
    ·cases h
    ·intro i hi o ho;rcases UT.1 hi with rfl|hi
     ·rw [hu] at ho;cases ho;exact hg
     ·exact xD h (λi hi=>hn i (Ve _ hi)) i hi o ho
   ·cases h
section
variable {P:Program} {n:Nat} {ops:Array Oper} {M:Δ} {E0:En} {K:CK}
theorem y6 {o:Oper} {E:En} {F:PH} {A B:En->Ψ} (h:aG P (execOp (ev E) o) F (bO P A o E)) (hab:∀E' F',A E' F'->B E' F'):aG P (execOp (ev E) o) F (bO P B o E):=
 dh _ _ h λnx F' hn=>by
  cases nx with
  |value v=>exact hab _ _ hn
  |skip=>exact hab _ _ hn
  |enter f args=>exact hn.mono λv F' h=>hab _ _ h
  |defer d=>exact ⟨hn.1,hab _ _ hn.2⟩
  |_=>exact hn
def jN (K:CK):Prop:=∀c σ F,¬K (.panic c) σ F
theorem kL (hK:jN K) (hM:∀o∈ops.toList,∀t,o.dst=some t->t∈M):∀(k fuel:Nat) (listed:Array Bool) (pend:Pn) (Sp:co) (σ:Sy) (E:En) (F:PH),Fr M E0 E->PW pend Sp->fZ Sp F->
  sxD P n ops (K .normal) k fuel listed pend σ F->Rel σ E->RG P n ops (QK M E0 K) fuel listed Sp E F
 |0,fuel,listed,pend,Sp,σ,E,F,fr,pw,hh,h,r=>by unfold sxD at h;exact h.elim
 |k+1,fuel,listed,pend,Sp,σ,E,F,fr,pw,hh,h,r=>by
  have hp:∀c E F,¬QK M E0 K (.panic c) E F:=λc E F ⟨⟨σ,_,h⟩,_⟩=>hK c σ F h;have mem:∀{i:Nat} {o:Oper},ops[i]? =some o->o∈ops.toList:=λh=>by rw [<- Wu] at h;exact UY h
  unfold sxD at h;split at h
  ·rename_i hr;exact Id hr ⟨⟨σ,r,h⟩,fr⟩
  ·rename_i rs hne;split at h
   ·exact h.elim
   ·rename_i fuel;split at h
    ·rename_i i o g hpk;obtain ⟨hi,hg⟩:=xC hpk;obtain ⟨hb,h⟩:=eO h;simp only [VB] at hb;obtain ⟨⟨⟨h1,h2⟩,h3⟩,h4⟩:=hb;have gk:=y4 (ops:=ops) r o;rw [hg] at gk;split at h
     ·cases gk with
      |no hw=>exact If hi h1 h2 h3 h4 hp hw hh (kL hK hM k fuel _ pend Sp _ _ F (fr.trans (yZ λt e=>hM o (mem hi) t e)) pw hh h (r.putO rfl))
     ·rename_i j b want;cases gk with
      |split _ _ _ v hj hv hw=>have h:=EY h hv;exact kL hK hM k (fuel+1) _ pend Sp _ _ F fr pw hh h (r.rf hj hv)
     ·cases gk with
      |go hw=>
       obtain ⟨σ',nv,ck,v,hy,r',hnv,hck,h⟩:=ER h r;have fr':Fr M E0 (cQ E o.dst v):=fr.trans (yZ λt e=>hM o (mem hi) t e);cases ck with
       |none=>exact Om hi h1 h2 h3 h4 hp hw hck hh (kL hK hM k fuel _ pend Sp _ _ F fr' pw hh h (r'.putO hnv))
       |some c=>refine Ol hi h1 h2 h3 h4 hp hw hy hh (kL hK hM k fuel _ ((i,c)::pend) _ _ _ F fr' (.cons (λF hc=>A2 (hck.2 F hc)) pw) (JJ (A2 hy) hh) h (r'.putO hnv))
     ·exact h.elim
    ·rename_i hpk;have hall:=Bt h;have hev:∀i∈Region.ready .any ops listed,∃o,ops[i]? =some o/\_:=λi hi=>by
      have:=hall _ (U8.2 ⟨i,hi,rfl⟩);split at this
      ·exact this.elim
      ·rename_i o ho;exact ⟨o,ho,this⟩
     have hgo:=xD hpk (λi hi e=>by obtain ⟨o,ho,_⟩:=hev i hi;rw [e] at ho;cases ho);refine Mk rfl (by cases hl:Region.ready .any ops listed with|nil=>exact absurd hl hne|cons _ _=>rfl) λi hi=> ?_;obtain ⟨o,ho,hx⟩:=hev i hi;obtain ⟨hd,hx⟩:=eO hx;have gk:=y4 (ops:=ops) r o;rw [hgo i hi o ho] at gk;cases gk with
     |go hw=>
      refine ⟨o,ho,hd,hw,y6 (EX hx r) ?_⟩;rintro E' F' ⟨fl,σ',hl,r',hf,h⟩;have fr':Fr M E0 E':=fr.trans λt ht=>hf t λe=>qX (hM o (mem ho) t e) ht rfl;cases fl with
      |true=>have hh':=Io (hl rfl) (C0 (o:=o) hh);exact ⟨hh',kL hK hM k fuel _ _ _ _ _ F' fr' pw.rest hh' h r'⟩
      |false=>obtain ⟨hh',h⟩:=Im pw.rest h;exact ⟨hh',kL hK hM k fuel _ _ _ _ _ F' fr' pw.rest hh' h r'⟩
end
end Go.Proofs.YtcemhghkipgdiaaGreatDoor.Rx

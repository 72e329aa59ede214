/-
  A reader of code. Part 6: regions in any order; code; functions.
-/
import Derived.Test.YtcemhghkipgdiaaGreatDoorPht
namespace Go.Proofs.YtcemhghkipgdiaaGreatDoor.Rx
open Go
section
variable {P:Program} {σ:Sy} {E:En} {F:PH} {x y:Operand} {o:Oper}
theorem OE {α β:Type} {f:α->β} {l:List α} {a b:β} (h:l.map f=[a,b]):∃x y,l=[x,y]/\f x=a/\f y=b:=by
 rcases l with _|⟨x,_|⟨y,_|⟨z,l⟩⟩⟩<;>simp at h
 exact ⟨x,y,rfl,h⟩
theorem OF {α β:Type} {f:α->β} {l:List α} {a b c:β} (h:l.map f=[a,b,c]):∃x y z,l=[x,y,z]/\f x=a/\f y=b/\f z=c:=by
 rcases l with _|⟨x,_|⟨y,_|⟨z,_|⟨u,l⟩⟩⟩⟩<;>simp at h
 exact ⟨x,y,z,rfl,h⟩
theorem eG {b:Bool} {K:Prop} (h:okN b K):b=true/\K:=by cases b;exact h.elim;exact ⟨rfl,h⟩
theorem uJ {d:TypeDesc} (h:kdD d=.agg):kf d=true:=by cases d<;>simp [kdD] at h<;>rfl
theorem oV {d:TypeDesc} (h:kdD d≠.agg):kf d=false:=by cases d<;>first|rfl|exact absurd rfl h
theorem HF {t:TypeId} {a:Addr} {K:NV->(Ψ)->Prop} (h:LV P t a F K) (r:Rel σ E) (ho:o.op=.load t x) (hx:ev E x=.pointer (some a)):
  ∃nv v c,c F/\(∀F':PH,c F'->RD P E F' o v)/\(∀T,je T nv v)/\K nv c:=by
 unfold LV at h;split at h
 ·exact h.elim
 ·rename_i d hd;split at h
  ·rename_i hk;split at h
   ·rename_i n b hz;obtain ⟨v,rfl,hr,h⟩:=h;exact ⟨.sv (.c (.agg v)),.agg v,λF=>F.row a v,hr,λF' hr=>Hl ho hx hd (uJ hk) hz hr,λ_=>rfl,h⟩
   ·exact h.elim
  ·rename_i hk;obtain ⟨v,hc,h⟩:=h;exact ⟨_,_,_,hc,λF' hc=>Hk ho hx hd (oV hk) hc,λ_=>qA _ v,h⟩
theorem ia {y:Option Operand} {dflt:Nat} {K:Nat->Prop} (h:uM σ y dflt K) (r:Rel σ E):∃l,dz (y.map (ev E)) dflt l/\K l:=by
 unfold uM at h;split at h
 ·exact ⟨dflt,uF,h⟩
 ·rename_i y;split at h
  ·rename_i k i hw;split at h
   ·split at h
    ·rename_i hi;exact ⟨_,Js (ovc r hw) (of_decide_eq_true hi),h⟩
    ·exact h.elim
   ·exact ⟨_,Js (ovc r hw) h.1,h.2⟩
  ·exact h.elim
theorem qx {place:Nat->Option (Nat×Nat)} {n:Nat} (r:Rel σ E):∀(l:List (Nat×Operand)) (cs:Γ) {K:Γ->Prop},cs.size=n->bld σ place n l cs K->
  ∃res,Instr.fill place cs (l.map λp=>(p.1,ev E p.2))=some res/\K res
 |[],cs,K,_,h=>⟨cs,rfl,h⟩
 | (i,x)::l,cs,K,hn,h=>by
  unfold bld at h;split at h
  ·exact h.elim
  ·rename_i off s hp;have one:∀{v:Value},ev E x=v->v.cells= #[v]->Nat.beq s 1=true->Nat.blt off n=true->bld σ place n l (cs.setIfInBounds off v) K->
     ∃res,Instr.fill place cs (((i,x)::l).map λp=>(p.1,ev E p.2))=some res/\K res:=by
    clear h;intro v hx hc hs ho h;obtain rfl:=U2 hs;obtain ⟨res,h1,h2⟩:=qx r l _ (by simpa using hn) h;refine ⟨res,?_,h2⟩;rw [Ue];show Instr.fill place cs ((i,ev E x)::_)=_;rw [hx];exact Jq hp hc (by rw [hn];exact ho) h1
   split at h
   ·rename_i c hw;split at h
    ·rename_i ho;obtain ⟨hs,h⟩:=h;obtain ⟨res,h1,h2⟩:=qx r l _ (by rw [dK];exact hn) h;refine ⟨res,?_,h2⟩;rw [Ue];show Instr.fill place cs ((i,ev E x)::_)=_;rw [ovc r hw];exact Jr hp hs (by rw [hn];exact ho) h1
    ·exact h.elim
   ·rename_i v hna hw;split at h
    ·rename_i h1 h2;exact one (ovc r hw) (by cases v<;>first|rfl|exact absurd rfl (hna _)) h1 h2 h
    ·exact h.elim
   ·exact h.elim
   ·rename_i w hna hnc hnn;split at h
    ·rename_i v h1 h2 hv;refine one (bh r rfl hv) ?_ h1 h2 h;cases hw:σ.ov x<;>rw [hw] at hv<;>simp only [VW.val] at hv<;>first|(cases hv;done)|(cases hv;rfl)|(exact absurd hw (hna _))|(exact absurd hw (hnc _))|exact absurd hw (hnn _)
    ·exact h.elim
variable {K:RK}
theorem yO.of (r:Rel σ E) (h:Cz P E o λv=>K σ v none):yO P E F o K:=by obtain ⟨nv,v,h1,h2,h3⟩:=h;exact .pure h1 r h3 (h2 _)
theorem Ec (h:sxR P σ o F K) (r:Rel σ E):yO P E F o K:=by
 cases ho:o.op<;>simp only [sxR,ho] at h<;>try exact h.elim
 case move x=>exact .pure (λF=>Lj ho rfl) r h (tj r x)
 case assign x=>exact .pure (λF=>DH ho rfl) r h (tj r x)
 case pick c a b=>
  split at h
  ·rename_i hc;exact .pure (λF=>uC ho (bh r hc rfl) (λ_=>rfl) (λh=>by cases h)) r h (tj r a)
  ·rename_i hc;exact .pure (λF=>uC ho (bh r hc rfl) (λh=>by cases h) (λ_=>rfl)) r h (tj r b)
  ·exact h.elim
 case nilCheck x=>
  split at h
  ·rename_i hw;refine .pure (λF=>wF ho (ovc r hw)) r h ?_;show okV _ _ _;rw [<- ovc r hw];exact tj r x
  ·obtain ⟨σ',a,r',hx,h⟩:=ko h r;exact .pure (λF=>yr ho hx) r' h rfl
 case extract x i=>
  split at h
  ·rename_i vs hw;split at h
   ·rename_i v hv;exact .pure (λF=>sY ho (ovc r hw) hv) r h (Ep _ v)
   ·exact h.elim
  ·rename_i w hw;obtain ⟨v,hv,h⟩:=h;exact .pure (λF=>sY ho (bh r hw rfl) hv) r h (qA _ v)
  ·exact h.elim
 case fieldAddr t x i=>
  split at h
  ·rename_i fs ht;split at h
   ·rename_i f hf;split at h
    ·rename_i s b hz;obtain ⟨σ',a,r',hx,h⟩:=ko h r;exact .pure (λF=>wI ho hx ht hf hz (by omega)) r' h rfl
    ·exact h.elim
   ·exact h.elim
  ·exact h.elim
 case load t x=>
  obtain ⟨σ',a,r',hx,h⟩:=ko h r;obtain ⟨nv,v,c,h1,h2,h3,h⟩:=HF h r' ho hx;exact .chk h1 h2 r' h (h3 _)
 case indexAddr t x y=>
  split at h
  ·rename_i k i e hy ht;split at h
   ·rename_i base len cap s b hx hz;obtain ⟨a,rfl,h1,h2,h⟩:=h;exact .pure (λF=>rX ho (ovc r hx) (ovc r hy) ht hz h1 (by exact_mod_cast h2)) r h rfl
   ·exact h.elim
  ·rename_i k i n e hy ht;split at h
   ·rename_i s b hz;obtain ⟨σ',a,r',hx,h1,h2,h⟩:=ko h r;exact .pure (λF=>rY ho hx (ovc r hy) ht hz h1 (by exact_mod_cast h2)) r' h rfl
   ·exact h.elim
  ·exact h.elim
 case index t x y=>
  split at h
  ·rename_i s k i hx hy ht;obtain ⟨h1,h2,h3,v,rfl,h⟩:=h;exact .pure (λF=>yw ho (ovc r hx) (ovc r hy) ht h1 (by exact_mod_cast h2)) r h rfl
  ·rename_i cs k i n e hx hy ht;split at h
   ·rename_i d s b hd hz;split at h
    ·exact h.elim
    ·rename_i hk;obtain ⟨h1,h2,v,hv,h⟩:=h;exact .pure (λF=>wJ ho (ovc r hx) (ovc r hy) ht hz hd (oV hk) h1 (by exact_mod_cast h2) hv) r h (qA _ v)
   ·exact h.elim
  ·exact h.elim
 case field t x i=>
  split at h
  ·rename_i cs fs hx ht;split at h
   ·rename_i f hf;split at h
    ·rename_i d s b hd hz;split at h
     ·rename_i hk;exact .pure (λF=>DM ho (ovc r hx) ht hf hd (uJ hk) hz) r h rfl
     ·rename_i hk;obtain ⟨v,hv,h⟩:=h;exact .pure (λF=>DL ho (ovc r hx) ht hf hd (oV hk) hv) r h (qA _ v)
    ·exact h.elim
   ·exact h.elim
  ·exact h.elim
 case binOp op t x y t'=>exact .of r (Er h r ho)
 case unOp op t x=>
  split at h
  ·rename_i b hx;exact .pure (λF=>DJ ho (bh r hx rfl)) r h rfl
  ·rename_i i b hx;exact .pure (λF=>DJ ho (bh r hx rfl)) r h rfl
  ·rename_i i p d hx;refine .pure (v:=.bool (@decide (¬p) (@instDecidableNot p d))) (λF=> ?_) r h rfl;have:=DJ (P:=P) (F:=F) ho (bh r hx rfl);rw [show (!@decide p d)= @decide (¬p) (@instDecidableNot p d) by cases d<;>rfl] at this;exact this
  ·rename_i k a hx;exact .pure (λF=>N9 ho (ovc r hx)) r h rfl
  ·exact h.elim
 case convert t t' x=>
  split at h
  ·rename_i k a d k' hx ht ht';exact .pure (λF=>Cp ho (ovc r hx) ht ht') r h rfl
  ·rename_i b l c e hx ht ht';split at h
   ·rename_i he;obtain ⟨s,hs,h⟩:=h;exact .chk hs (λF' hs=>DC ho (ovc r hx) ht ht' he ⟨_,_,_,rfl⟩ hs) r h rfl
   ·exact h.elim
  ·exact h.elim
 case slice t x lo hi mx=>
  split at h
  ·rename_i e ht;split at h
   ·rename_i b len cap sz z hx hz;obtain ⟨l,hl,h⟩:=ia h r;obtain ⟨u,hu,h1,h2,h⟩:=ia h r;exact .pure (λF=>Cr (s:=⟨b,len,cap⟩) ho (ovc r hx) ht hz hl hu h1 h2) r h rfl
   ·exact h.elim
  ·rename_i ht;split at h
   ·rename_i s hx;obtain ⟨l,hl,h⟩:=ia h r;obtain ⟨u,hu,h1,h2,h⟩:=ia h r;exact .pure (λF=>yy ho (ovc r hx) ht hl hu h1 h2) r h rfl
   ·exact h.elim
  ·rename_i n e ht;split at h
   ·rename_i sz z hz;obtain ⟨σ',a,r',hx,h⟩:=ko h r;exact .pure (λF=>tc ho hx ht hz uF uF (VD _) (TT _)) r' h rfl
   ·rename_i sz z hz hnn;obtain ⟨σ',a,r',hx,h⟩:=ko h r;obtain ⟨l,hl,h⟩:=ia h r';obtain ⟨u,hu,h1,h2,h⟩:=ia h r';exact .pure (λF=>tc ho hx ht hz hl hu h1 h2) r' h rfl
   ·exact h.elim
  ·rename_i e m ht;split at h
   ·rename_i b len cap sz z k i k' m' hx hz hhi hm;obtain ⟨l,hl,h0,hm0,h1,h2,h3,h⟩:=ia h r;cases hi with
    |none=>simp at hhi
    |some hi=>simp only [Uv,Option.some.injEq] at hhi;exact .pure (λF=>yx (s:=⟨b,len,cap⟩) ho (ovc r hx) ht hz hl (ovc r hhi) (ovc r hm) h0 hm0 h1 h2 h3) r h rfl
   ·exact h.elim
  ·exact h.elim
 case build t parts=>
  split at h
  ·rename_i fs z ht hz;obtain ⟨hk,h⟩:=eG h;obtain ⟨res,h1,h⟩:=qx r _ _ rfl h;exact .pure (λF=>rZ ho ht hz hk (by simp) h1) r h rfl
  ·rename_i n e z ht hz;split at h
   ·rename_i s b hs;obtain ⟨res,h1,h⟩:=qx r _ _ rfl h;exact .pure (λF=>uD ho ht hz hs (by simp) h1) r h rfl
   ·exact h.elim
  ·exact h.elim
 case makeFunc fn first cap=>
  cases fn<;>simp only at h<;>try exact h.elim
  obtain ⟨us,h1,h⟩:=ju r _ h;obtain ⟨vs,h2,h⟩:=ju r _ h;have h1':first.map (ev E)=us.toArray:=by rw [<- h1,<- Array.toList_map,Array.toArray_toList]
  have h2':cap.map (ev E)=vs.toArray:=by rw [<- h2,<- Array.toList_map,Array.toArray_toList]
  exact .pure (λF=>yt ho h1' h2') r h rfl
 case lookup t x y ok=>
  split at h
  ·rename_i u v kt e hu hv ht;split at h
   ·obtain ⟨q,b,h1,h⟩:=h;exact .chk h1 (λF' h1=>wM ho (bh r rfl hu) (bh r rfl hv) h1) r h rfl
   ·obtain ⟨q,h1,h⟩:=h;exact .chk h1 (λF' h1=>wM ho (bh r rfl hu) (bh r rfl hv) h1) r h (qA _ q)
  ·exact h.elim
 case entry x=>
  split at h
  ·rename_i u hu;obtain ⟨w,h1,h⟩:=h;exact .chk h1 (λF' h1=>Hf ho (bh r rfl hu) h1) r h rfl
  ·exact h.elim
 case call c=>
  obtain ⟨cal,args,ts⟩:=c;obtain ⟨args⟩:=args;obtain ⟨ts⟩:=ts;cases cal<;>simp only at h<;>try exact h.elim
  rename_i b;split at h
  ·rename_i bs l cp t heq;obtain ⟨x,rfl,hx⟩:=U1.1 heq;split at h
   ·rename_i ht;exact .pure (λF=>Hi (s:=⟨bs,l,cp⟩) ho (ovc r hx) ht) r h rfl
   ·exact h.elim
  ·rename_i s t heq;obtain ⟨x,rfl,hx⟩:=U1.1 heq;split at h
   ·rename_i ht;exact .pure (λF=>DK ho (ovc r hx) ht) r h rfl
   ·exact h.elim
  ·rename_i m t heq;obtain ⟨x,rfl,hx⟩:=U1.1 heq;obtain ⟨v,h1,h⟩:=h;exact .chk h1 (λF' h1=>DD ho (ovc r hx) h1) r h rfl
  ·rename_i bs l cp t heq;obtain ⟨x,rfl,hx⟩:=U1.1 heq;split at h
   ·rename_i ht;exact .pure (λF=>Hj (s:=⟨bs,l,cp⟩) ho (ovc r hx) ht) r h rfl
   ·exact h.elim
  ·rename_i k a k' b' heq;obtain ⟨x,y,rfl,hx,hy⟩:=OE heq;obtain ⟨hk,h'⟩:=eG h;obtain rfl:=of_decide_eq_true hk;exact .pure (λF=>Ly ho (ovc r hx) (ovc r hy)) r h' rfl
  ·rename_i k a k' b' heq;obtain ⟨x,y,rfl,hx,hy⟩:=OE heq;obtain ⟨hk,h'⟩:=eG h;obtain rfl:=of_decide_eq_true hk;exact .pure (λF=>Lz ho (ovc r hx) (ovc r hy)) r h' rfl
  ·rename_i k a k' b' k'' c' heq;obtain ⟨x,y,z,rfl,hx,hy,hz⟩:=OF heq;obtain ⟨hk,h'⟩:=eG h;obtain ⟨rfl,rfl⟩:=of_decide_eq_true hk;exact .pure (λF=>LA ho (ovc r hx) (ovc r hy) (ovc r hz)) r h' rfl
  ·rename_i k a k' b' k'' c' heq;obtain ⟨x,y,z,rfl,hx,hy,hz⟩:=OF heq;obtain ⟨hk,h'⟩:=eG h;obtain ⟨rfl,rfl⟩:=of_decide_eq_true hk;exact .pure (λF=>LB ho (ovc r hx) (ovc r hy) (ovc r hz)) r h' rfl
  ·exact h.elim
end
end Go.Proofs.YtcemhghkipgdiaaGreatDoor.Rx
namespace Go.Proofs.YtcemhghkipgdiaaGreatDoor.Rx
open Go
theorem LO {F:PH} {b:Nat} {o:Obj} (hb:F b=none):F.le (F.set b o):=λx u hx=>by
 have:x≠b:=λe=>by rw [e,hb] at hx;cases hx
 rw [yA _ _ this];exact hx
section
variable {P:Program} {σ:Sy} {E:En} {F:PH} {x y z:Operand} {o:Oper}
def KK (F:PH) (E:En) (o:Oper) (K:EK) (E':En) (F':PH):Prop:=∃fl σ',(fl=true->F.le F')/\Rel σ' E'/\(∀t,o.dst≠some t->E' t=E t)/\K fl σ' F'
def LP (P:Program) (E:En) (F:PH) (o:Oper) (K:EK):Prop:=aD P (execOp (ev E) o) F (bJ P (KK F E o K) o E)
theorem oW {d:Option Tmp} {v:Value} {t:Nat} (h:d≠some t):cM E d v t=E t:=by
 cases d with
 |none=>rfl
 |some d=>simp only [cM,upd,kj (λe:t=d=>h (by rw [e]))];rfl
variable {K:EK}
theorem KK.mk {nv:NV} {v:Value} {F':PH} {fl:Bool} (r:Rel σ E) (h:K fl (σ.putO o.dst nv) F') (hv:je σ.T nv v) (hl:fl=true->F.le F'):KK F E o K (cM E o.dst v) F':=
 ⟨fl,_,hl,r.putO hv,λ_ ht=>oW ht,h⟩
theorem KK.f {nv:NV} {v:Value} {F':PH} (r:Rel σ E) (h:K false (σ.putO o.dst nv) F') (hv:je σ.T nv v):KK F E o K (cM E o.dst v) F':=KK.mk r h hv (λh=>by cases h)
theorem ib {ob:Obj} {s:Nat->SV} {v:Nat->Value} (h:sxN σ o.dst ob s F K) (r:Rel σ E) (hv:∀b,okV σ.T (s b) (v b)):∀b,F b=none->KK F E o K (cM E o.dst (v b)) (F.set b ob):=
 λb hb=>KK.mk r (atE (h b hb)) (hv b) (λ_=>LO hb)
theorem HG {d:Option Tmp} {t:TypeId} {v:Value} {K:Sy->Prop} (h:wT P σ d t v K) (r:Rel σ E):∃σ',Rel σ' (cM E d v)/\K σ':=by
 unfold wT at h;split at h
 ·exact ⟨σ,r,h⟩
 ·rename_i d;split at h
  ·split at h
   ·obtain ⟨rfl,h⟩:=h;exact ⟨_,r.put (show je σ.T (.sv (.c (.tuple _))) _ from rfl),h⟩
   ·obtain ⟨a,rfl,h⟩:=h;exact ⟨_,r.put (show je σ.T (.sv (.c (.tuple _))) _ from rfl),h⟩
   ·obtain ⟨a,b,rfl,h⟩:=h;exact ⟨_,r.put (show je σ.T (.sv (.c (.tuple _))) _ from rfl),h⟩
   ·obtain ⟨a,b,c,rfl,h⟩:=h;exact ⟨_,r.put (show je σ.T (.sv (.c (.tuple _))) _ from rfl),h⟩
   ·obtain ⟨a,b,c,e,rfl,h⟩:=h;exact ⟨_,r.put (show je σ.T (.sv (.c (.tuple _))) _ from rfl),h⟩
   ·exact h.elim
  ·obtain ⟨a,rfl,h⟩:=h;exact ⟨_,r.put (qA _ a),h⟩
theorem yJ {t:TypeId} {v:Value} {F':PH} (h:wT P σ o.dst t v λσ=>K false σ F') (r:Rel σ E):KK F E o K (cM E o.dst v) F':=by obtain ⟨σ',r',h⟩:=HG h r;exact ⟨false,σ',(λh=>by cases h),r',λ_ ht=>oW ht,h⟩
theorem oX {w:VW} {v:Value} (hv:w.val=some v) (h1:∀c,w≠.c (.agg c)) (h2:∀u,w≠.any u):v.cells= #[v]:=by
 cases w<;>simp only [VW.val] at hv<;>first|(cases hv;done)|(cases hv;rfl)|exact absurd rfl (h2 _)|skip
 rename_i u;cases hv;cases v<;>first|rfl|exact absurd rfl (h1 _)
theorem Ed {w:VW} {v:Value} (hv:w.val=some v) (h1:∀c,w≠.c (.agg c)) (h2:∀u,w≠.any u) (h3:∀u,w≠.c (.tuple u)) (h4:∀u,w≠.vt u) (h5:w≠.und):al v:=by
 cases w<;>simp only [VW.val] at hv<;>first|(cases hv;done)|exact absurd rfl (h2 _)|exact absurd rfl (h4 _)|exact absurd rfl h5|skip
 all_goals cases hv
 case c.refl=>exact ⟨λc e=>h1 c (by rw [e]),λc e=>h3 c (by rw [e])⟩
 all_goals exact ⟨(λ_ h=>by cases h),(λ_ h=>by cases h)⟩
theorem AM (r:Rel σ E):∀(l:List (Nat×Operand)) (k:Nat) {us:Ξ},HM σ k l=some us->(l.map λp=>(p.1,ev E p.2))=Az k us/\Hp us/\us.length=l.length
 |[],k,us,h=>by cases h;exact ⟨rfl,trivial,rfl⟩
 | (i,x)::l,k,us,h=>by
  unfold HM at h;split at h
  ·cases h
  ·cases h
  ·rename_i hi h1 h2;split at h
   ·rename_i v vs hv hs;cases h;obtain ⟨e1,e2,e3⟩:=AM r l _ hs;obtain rfl:=U2 hi;refine ⟨?_,⟨oX hv (λc e=>h1 c e) (λu e=>h2 u e),e2⟩,by simp [e3]⟩;rw [Ue,e1];show (i,ev E x)::_=(i,v)::_;rw [bh r rfl hv]
   ·cases h
  ·cases h
theorem Ee {t:TypeId} {s:ByteArray} {K:En->Ψ} (ho:o.op=.range t x) (hx:ev E x=.string s) (h1:P.underlying t=some .string) (h:∀b,F b=none->K (cM E o.dst (.pointer (some ⟨b,0,none⟩))) (F.set b (.stringIter s 0))):
  aD P (execOp (ev E) o) F (bJ P K o E):=by
 simp only [execOp,ho,hx,Instr.range,aA,bR h1,aK,newObj,aD,bJ];exact h
theorem Ef {t:TypeId} {v:Value} {K:En->Ψ} (ho:o.op=.range t x) (hx:ev E x=v) (h:aD P (Instr.range t v) F λr F'=>K (cM E o.dst r) F'):aD P (execOp (ev E) o) F (bJ P K o E):=by simp only [execOp,ho,hx,aA,aK,bJ];exact h
theorem LQ {v:Value} {is:Bool} {K:En->Ψ} (ho:o.op=.next x is) (hx:ev E x=v) (h:aD P (Instr.next v is o.type) F λr F'=>K (cM E o.dst r) F'):aD P (execOp (ev E) o) F (bJ P K o E):=by simp only [execOp,ho,hx,aA,aK,bJ];exact h
theorem Eh {t:TypeId} {u v q:Value} {K:En->Ψ} (ho:o.op=.insert t x y z) (hx:ev E x=u) (hy:ev E y=v) (hz:ev E z=q)
  (h:aD P (Instr.mapUpdate t u v q) F λ_ F'=>K (cM E o.dst undef) F'):aD P (execOp (ev E) o) F (bJ P K o E):=by
 subst hx hy hz;have:execOp (ev E) o=execOp (ev E) {o with op:=.mapUpdate t x y z}:=by simp only [execOp,ho]
 rw [this];exact nR (o:={o with op:=.mapUpdate t x y z}) rfl rfl rfl rfl h
theorem Ei {ts:Array TypeId} {u v:Value} {K:En->Ψ} (ho:o.op=.call ⟨.builtin .delete,#[x,y],ts⟩) (hx:ev E x=u) (hy:ev E y=v) (h:aD P (Builtin.delete_ ts o.type #[u,v]) F λr F'=>K (cM E o.dst r) F'):
  aD P (execOp (ev E) o) F (bJ P K o E):=by
 simp [execOp,ho,resolve,hx,hy,invoke,builtin,bJ];exact h
theorem Ej (h:sxE P σ o F K) (r:Rel σ E):LP P E F o K:=by
 cases ho:o.op<;>simp only [sxE,ho] at h<;>try exact h.elim
 case alloc t=>
  split at h
  ·rename_i z hz;exact Hm ho hz (ib h r (λ_=>rfl))
  ·exact h.elim
 case box t x=>
  split at h
  ·rename_i c hw;exact DN ho (ovc r hw) (ib h r (λ_=>rfl))
  ·rename_i v hw;obtain ⟨hc,h⟩:=h;rw [<- hc] at h;exact DN ho (bh r hw rfl) (ib h r (λ_=>rfl))
  ·rename_i h1 h2;split at h
   ·rename_i v hv;have hc:v.cells= #[v]:=oX hv (λc e=>h1 c e) (λu e=>h2 u e);rw [<- hc] at h;exact DN ho (bh r rfl hv) (ib h r (λ_=>rfl))
   ·exact h.elim
 case buildSlice t m parts=>
  split at h
  ·rename_i e ht;split at h
   ·rename_i s b z hz hzz;split at h
    ·rename_i hm hs h0;have hm':m*s<=16777216:=Vo hm;have hs':z.cells.size=s:=U2 hs;split at h
     ·rename_i l h1 h2 hl;obtain rfl:=U2 h1;obtain ⟨e1,e2,e3⟩:=AM r _ _ hl;exact g0 ho ht hz hm' hzz (by simpa using e1) (Hq (by rw [e3];exact U2 h2) rfl hs' e2) (by rw [hs']) (ib h r (λ_=>rfl))
     ·split at h
      ·rename_i c heq hn;obtain ⟨hcs,h⟩:=h;obtain ⟨p,hp,hpe⟩:=U1.1 heq;obtain ⟨i,x⟩:=p;simp only [VG] at hpe;obtain ⟨rfl,hx⟩:=hpe;exact g0 (vs:=[(0,.agg c)]) ho ht hz hm' hzz (by simp [hp,ovc r hx]) (Ct hcs hs' h0) (by rw [hs']) (ib h r (λ_=>rfl))
      ·obtain ⟨res,e1,h⟩:=qx r _ _ (by rw [<- oS _ (by rw [hs'];exact h0)];simp [Builtin.zeroCells,hs']) h;refine g0 (vs:=parts.toList.map λp=>(p.1,ev E p.2)) ho ht hz hm' hzz (by simp) (cells:=res) ?_ (by rw [hs']) (ib h r (λ_=>rfl));rw [oS _ (by rw [hs'];exact h0)];exact e1
    ·exact h.elim
   ·exact h.elim
  ·exact h.elim
 case store t x y=>
  obtain ⟨σ',a,r',hx,h⟩:=ko h r;have st:∀{v:Value} {b:Nat},ev E y=v->tsz P t=some (1,b)->v.cells= #[v]->al v->sto F a v (λF=>K false (σ'.putO o.dst (.sv .und)) F)->LP P E F o K:=by intro v b hy hz hc hst ⟨c,e,h1,h2,h3,h4⟩;exact DO ho hx hy hz hc rfl hst h2 h1 h3 (KK.f r' (atE h4) rfl)
  split at h
  ·rename_i v n b hy hz;obtain ⟨h1,h2,c,e,h3,h4,h5,h6⟩:=h;refine DP ho hx (ovc r' hy) hz h1 h2 (λh0=> ?_) h4 h3 h5 (KK.f r' (atE h6) rfl);have:v.toList.length=0:=by rw [h0];rfl
   simp at this;simp [this] at h1
  ·exact h.elim
  ·rename_i v b hna hnt hy hz;exact st (ovc r' hy) hz (oX (w:=.c v) rfl (λc e=>hna c (by cases e;rfl)) (λu e=>by cases e)) (Ed (w:=.c v) rfl (λc e=>hna c (by cases e;rfl)) (λu e=>by cases e) (λc e=>hnt c (by cases e;rfl)) (λu e=>by cases e) (λe=>by cases e)) h
  ·rename_i v b hy hz;exact st (bh r' hy rfl) hz h.2.1 h.1 h.2.2
  ·exact h.elim
  ·exact h.elim
  ·rename_i b hz h2 h3 h4 h5 h6 h7;split at h
   ·rename_i v hv;exact st (bh r' rfl hv) hz (oX hv (λc e=>h2 c e) (λu e=>h5 u e)) (Ed hv (λc e=>h2 c e) (λu e=>h5 u e) (λc e=>h3 c e) (λu e=>h6 u e) (λe=>h7 e)) h
   ·exact h.elim
  ·exact h.elim
 case range t x=>
  split at h
  ·rename_i s ht hx;exact Ee ho (ovc r hx) ht (ib h r (λ_=>rfl))
  ·split at h
   ·rename_i v hv;exact Ef ho (bh r rfl hv) (cY _ _ h λu F' ⟨b,hb,h⟩=>by subst hb;exact KK.f r h rfl)
   ·exact h.elim
  ·exact h.elim
 case next x is=>
  split at h
  ·rename_i v hv;exact LQ ho (bh r rfl hv) (cY _ _ h λu F' ⟨b,hb,h⟩=>by subst hb;exact KK.f r h rfl)
  ·exact h.elim
 case makeSlice t x y=>
  split at h
  ·rename_i u v hu hv;exact wL ho (bh r rfl hu) (bh r rfl hv) (cY _ _ h λu F' ⟨b,hb,h⟩=>by subst hb;exact KK.f r h rfl)
  ·exact h.elim
 case makeMap t q=>
  cases q<;>simp only at h<;>try exact h.elim
  exact yB ho (ib h r (λ_=>rfl))
 case mapUpdate t x y z=>
  split at h
  ·rename_i u v w hu hv hw;exact nR ho (bh r rfl hu) (bh r rfl hv) (bh r rfl hw) (cY _ _ h λu F' h=>KK.f r h rfl)
  ·exact h.elim
 case insert t x y z=>
  split at h
  ·rename_i u v w hu hv hw;exact Eh ho (bh r rfl hu) (bh r rfl hv) (bh r rfl hw) (cY _ _ h λu F' h=>KK.f r h rfl)
  ·exact h.elim
 case defer c=>
  obtain ⟨cal,args,ts⟩:=c;obtain ⟨args⟩:=args;cases cal with
  |value g=>
   obtain ⟨us,h1,h⟩:=ju r _ h;split at h
   ·rename_i f a b hg;exact Ho ho (ovc r hg) (by rw [<- h1];simp) h.1 (KK.f r h.2 rfl)
   ·exact h.elim
  |_=>exact h.elim
 case call c=>
  obtain ⟨cal,args,ts⟩:=c;obtain ⟨args⟩:=args;cases cal with
  |invoke=>exact h.elim
  |builtin b=>
   simp only at h;split at h
   ·split at h
    ·rename_i x y u v hu hv;exact DQ ho (bh r rfl hu) (bh r rfl hv) (cY _ _ h λu F' ⟨b,hb,h⟩=>by subst hb;exact KK.f r h rfl)
    ·exact h.elim
   ·split at h
    ·rename_i x y u v hu hv;exact LD ho (bh r rfl hu) (bh r rfl hv) (cY _ _ h λu F' ⟨b,hb,h⟩=>by subst hb;exact KK.f r h rfl)
    ·exact h.elim
   ·split at h
    ·rename_i x y u v hu hv;exact Ei ho (bh r rfl hu) (bh r rfl hv) (cY _ _ h λu F' h=>KK.f r h True.intro)
    ·exact h.elim
   ·exact h.elim
  |value g=>
   have cF:∀(h:uK σ args λvs=>(match σ.ov g with
     | .c (.func (.func f) a b)=>okN (aB P f) (aj P f (a++vs.toArray++b) F λv F=>wT P σ o.dst o.type v λσ=>K false σ F)
     | .any u=>∃(k:Nat) (a b:Γ),u=.func (.func k) a b/\aB P k=true/\aj P k (a++vs.toArray++b) F λv F=>wT P σ o.dst o.type v λσ=>K false σ F
     |_=>False)),LP P E F o K:=by
    intro h;obtain ⟨us,h1,h⟩:=ju r _ h;split at h
    ·rename_i f a b hg;obtain ⟨hc,h⟩:=eG h;exact Ay ho (ovc r hg) hc (by rw [<- h1];simp) (h.mono λv F' h=>yJ h r)
    ·rename_i u hg;obtain ⟨f,a,b,rfl,hc,h⟩:=h;exact Ay ho (bh r hg rfl) hc (by rw [<- h1];simp) (h.mono λv F' h=>yJ h r)
    ·exact h.elim
   cases g with
   |func f=>obtain ⟨us,h1,h⟩:=ju r _ h;obtain ⟨hc,h⟩:=eG h;exact LC ho hc (by rw [<- h1];simp) (h.mono λv F' h=>yJ h r)
   |_=>exact cF h
end
end Go.Proofs.YtcemhghkipgdiaaGreatDoor.Rx
namespace Go.Proofs.YtcemhghkipgdiaaGreatDoor.Rx
open Go
section
variable {P:Program} {σ:Sy} {E:En} {F:PH} {n:Nat} {ops:Array Oper}
def Fr (M:Δ) (E E':En):Prop:=∀t,oA M t=false->E' t=E t
theorem wP {a b:Δ} {t:Nat}:oA (a++b) t=false↔oA a t=false/\oA b t=false:=by
 induction a with
 |nil=>simp [oA]
 |cons x a ih=>simp only [Uz,oA];cases Nat.beq t x<;>simp [ih]
theorem Fr.refl {M:Δ} {E:En}:Fr M E E:=λ_ _=>rfl
theorem Fr.trans {M:Δ} {E E' E'':En} (h:Fr M E E') (h':Fr M E' E''):Fr M E E'':=λt ht=>(h' t ht).trans (h t ht)
theorem Fr.left {a b:Δ} {E E':En} (h:Fr a E E'):Fr (a++b) E E':=λt ht=>h t (wP.1 ht).1
theorem Fr.right {a b:Δ} {E E':En} (h:Fr b E E'):Fr (a++b) E E':=λt ht=>h t (wP.1 ht).2
theorem qy {M:Δ} {d:Nat} (h:d∈M) {t:Nat} (ht:oA M t=false):t≠d:=by
 induction M with
 |nil=>cases h
 |cons x M ih=>
  simp only [oA] at ht;intro e;subst e;rcases TN.1 h with rfl|h
  ·have:Nat.beq t t=true:=by simp
   rw [this] at ht;cases ht
  ·cases hb:Nat.beq t x<;>rw [hb] at ht
   ·exact ih h ht rfl
   ·cases ht
theorem yK {M:Δ} {d:Option Tmp} {v:Value} (h:∀t,d=some t->t∈M):Fr M E (cM E d v):=λt ht=>oW λe=>qy (h t e) ht rfl
theorem wQ {l:List Oper} {o:Oper} {d:Nat} (ho:o∈l) (hd:o.dst=some d):d∈Em l:=by
 induction l with
 |nil=>cases ho
 |cons x l ih=>
  unfold Em;rcases TN.1 ho with rfl|ho
  ·rw [hd];exact UN ..
  ·split
   ·exact T5 _ (ih ho)
   ·exact ih ho
def QK (M:Δ) (E0:En) (K:CK):Exit->En->Ψ:=λex E F=>(∃σ,Rel σ E/\K ex σ F)/\Fr M E0 E
inductive GOk (ops:Array Oper) (σ:Sy) (E:En) (o:Oper):G->Prop
 |go (h:Region.wanted o (yE ops E)=true):GOk ops σ E o .go
 |no (h:Region.wanted o (yE ops E)=false):GOk ops σ E o .no
 |split (i:Nat) (b:SB) (want v:Bool) (hi:σ.T i=some b) (hv:b.v=.bool v) (h:Region.wanted o (yE ops E)=(v==want)):GOk ops σ E o (.split i b want)
 |bad:GOk ops σ E o .bad
theorem JM {j t:Nat} (hj:(ops[j]?).bind (·.dst)=some t):yE ops E j=(match E t with| .bool b=>some b|_=>none):=by unfold yE;rw [hj];rfl
theorem cQ (r:Rel σ E) {t:Nat} {w:VW} {v:Value} (hw:σ.vw t=w) (hv:w.val=some v):E t=v:=JN (r.val t) (by rw [<- hw] at hv;exact hv)
theorem yL (r:Rel σ E) (o:Oper):GOk ops σ E o (grd ops σ o):=by
 unfold grd;split
 ·rename_i hg;exact .go (by unfold Region.wanted;rw [hg])
 ·rename_i j want hg;have hwn:∀y,Region.wanted o y=(y j==some want):=λy=>by unfold Region.wanted;rw [hg]
  split
  ·rename_i hn;refine .no ?_;rw [hwn];unfold yE;rw [hn];rfl
  ·rename_i t ht;have hb:∀{b:Bool},E t=.bool b->Region.wanted o (yE ops E)=(b==want):=by intro b hb;rw [hwn,JM ht,hb];cases b<;>cases want<;>rfl
   split
   ·rename_i b hw;have:=hb (cQ r hw rfl);split
    ·rename_i hbw;exact .go (by rw [this];exact hbw)
    ·rename_i hbw;exact .no (by rw [this];exact hbw)
   ·rename_i hw;refine .no ?_;rw [hwn,JM ht,cQ r hw rfl];rfl
   ·rename_i i b hw;exact .split i _ want b (Eo hw) rfl (hb (cQ r hw rfl))
   ·rename_i i p d hw;exact .split i _ want _ (HO hw) rfl (hb (cQ r hw rfl))
   ·exact .bad
theorem Ek {b:SB} {v:Bool} {f:Bool->Prop} (h:spl b f) (hv:b.v=.bool v):f v:=by
 unfold spl at h;split at h
 ·rename_i b;obtain rfl:b=v:=by simpa [SB.v] using hv
  cases b
  ·exact h.2 rfl
  ·exact h.1 rfl
 ·rename_i p d;have: @decide p d=v:=by simpa [SB.v] using hv
  cases v
  ·exact h.2 (of_decide_eq_false this)
  ·exact h.1 (of_decide_eq_true this)
 ·exact h.elim
theorem LU {Q:Exit->En->Ψ} {o:Oper} {l:List Oper} {K:Sy->Ψ} (hw:Region.wanted o (yE ops E)=true) (hd:fq n o.dst=true) (h:sxO P o K σ F) (r:Rel σ E)
  (k:∀σ' E' F',Rel σ' E'->(∀t,o.dst≠some t->E' t=E t)->K σ' F'->HL P n ops Q l E' F'):HL P n ops Q (o::l) E F:=by
 unfold sxO at h;split at h
 ·obtain ⟨σ',nv,ck,v,hy,r',hv,_,h⟩:=Ec h r;exact Od hy (k _ _ _ (r'.putO hv) (λ_ ht=>oW ht) h) hw hd
 ·have:=Ej h r;refine Jy hw hd (cY _ _ this ?_);intro nx F' hn;cases nx with
  |value v=>obtain ⟨fl,σ',_,r',fr,h⟩:=hn;exact k _ _ _ r' fr h
  |skip=>obtain ⟨fl,σ',_,r',fr,h⟩:=hn;exact k _ _ _ r' fr h
  |enter f args=>exact hn.mono λv F' ⟨fl,σ',_,r',fr,h⟩=>k _ _ _ r' fr h
  |defer d=>obtain ⟨hi,fl,σ',_,r',fr,h⟩:=hn;exact ⟨hi,k _ _ _ r' fr h⟩
  |_=>exact hn
theorem yM {M:Δ} {E0:En} {K:CK}:∀(l:List Oper) (σ:Sy) (E:En) (F:PH),(∀o∈l,∀t,o.dst=some t->t∈M)->Fr M E0 E->sxL P n ops (K .normal) l σ F->Rel σ E->HL P n ops (QK M E0 K) l E F
 |[],σ,E,F,_,fr,h,r=>LI ⟨⟨σ,r,h⟩,fr⟩
 |o::l,σ,E,F,hM,fr,h,r=>by
  unfold sxL at h;obtain ⟨hd,h⟩:=eG h;have step:∀{σ:Sy},Rel σ E->Region.wanted o (yE ops E)=true->sxO P o (sxL P n ops (K .normal) l) σ F->HL P n ops (QK M E0 K) (o::l) E F:=λr hw h=>
   LU hw hd h r λσ' E' F' r' hf h'=>yM l σ' E' F' (λo ho=>hM o (T5 _ ho))
    (fr.trans λt ht=>hf t λe=>qy (hM o (UN ..) t e) ht rfl) h' r'
  have skip:∀{σ:Sy},Rel σ E->Region.wanted o (yE ops E)=false->sxL P n ops (K .normal) l (σ.putO o.dst (.sv .und)) F->HL P n ops (QK M E0 K) (o::l) E F:=λr hw h=>
   Hv hw hd (yM l _ _ F (λo ho=>hM o (T5 _ ho)) (fr.trans (yK λt e=>hM o (UN ..) t e)) h (r.putO rfl))
  have g:=yL (ops:=ops) r o;revert h g;cases grd ops σ o with
  |go=>intro h g;cases g with|go hw=>exact step r hw h
  |no=>intro h g;cases g with|no hw=>exact skip r hw h
  |bad=>intro h g;exact h.elim
  |split i b want=>
   intro h g;cases g with
   |split _ _ _ v hi hv hw=>
    have h:=Ek h hv;have r':Rel (σ.rf i (.lit v)) E:=r.rf hi hv;split at h
    ·rename_i hvw;exact step r' (by rw [hw];exact hvw) h
    ·rename_i hvw;exact skip r' (by rw [hw];exact hvw) h
end
end Go.Proofs.YtcemhghkipgdiaaGreatDoor.Rx
namespace Go.Proofs.YtcemhghkipgdiaaGreatDoor.Rx
open Go
inductive PW:Pn->ci->Prop
 |nil:PW [] []
 |cons {i:Nat} {c:Ψ} {S:World->Prop} {pend:Pn} {Sp:ci} (h:∀F,c F->yH F S) (t:PW pend Sp):PW ((i,c)::pend) ((i,S)::Sp)
theorem PW.rest {o:Oper} {pend:Pn} {Sp:ci} (h:PW pend Sp):PW (pend.filter λp=> !Oper.waits .any o p.1) (ci.rest .any o Sp):=by
 induction h with
 |nil=>exact .nil
 |cons h t ih=>
  rename_i i c S pend Sp;unfold ci.rest at*;simp only [List.filter_cons];cases Oper.waits .any o i
  ·exact .cons h ih
  ·exact ih
theorem HH {F:PH} {pend:Pn} {Sp:ci} (h:PW pend Sp) {K:Prop} (hc:LW F pend K):fN Sp F/\K:=by
 induction h with
 |nil=>exact ⟨Jt,hc⟩
 |cons h t ih=>exact ⟨Ju (h _ hc.1) (ih hc.2).1,(ih hc.2).2⟩
theorem HI {F F':PH} {S:World->Prop} (hl:F.le F') (h:yH F S):yH F' S:=λe w st=>h e w
 ⟨st.os,st.tape,st.output,λb o hb=>st.heap b o (hl b o hb),λb o hb=>⟨(by
  cases hF:F b with
  |none=>rfl
  |some u=>
   have h1:=(st.frame b o hb).1;rw [hl b u hF] at h1
   cases h1),(st.frame b o hb).2⟩⟩
theorem HJ {F F':PH} {Sp:ci} (hl:F.le F') (h:fN Sp F):fN Sp F':=λr hr=>HI hl (h r hr)
theorem Cy {F:PH} {o:Oper} {Sp:ci} (h:fN Sp F):fN (ci.rest .any o Sp) F:=λr hr=>h r (UZ.1 hr).1
theorem AN:∀{l:List Prop},LX l->∀p∈l,p
 |[],h=>h.elim
 |[p],h=>by intro q hq;rw [TO] at hq;subst hq;exact h
 |p::q::l,h=>by
  intro u hu;rcases TN.1 hu with rfl|hu
  ·exact h.1
  ·exact AN h.2 u hu
theorem wR {ops:Array Oper} {σ:Sy} {i:Nat} {o:Oper} {g:G}:∀{l:Δ},ti ops σ l=some (i,o,g)->ops[i]? =some o/\grd ops σ o=g
 |[],h=>by cases h
 |j::l,h=>by
  unfold ti at h;split at h
  ·cases h
  ·rename_i u hu;split at h
   ·rename_i hg;split at h
    ·cases h;exact ⟨hu,hg⟩
    ·exact wR h
   ·cases h;exact ⟨hu,rfl⟩
theorem wS {ops:Array Oper} {σ:Sy}:∀{l:Δ},ti ops σ l=none->(∀i∈l,ops[i]?≠none)->∀i∈l,∀o,ops[i]? =some o->grd ops σ o=.go
 |[],_,_=>λi hi=>by cases hi
 |j::l,h,hn=>by
  unfold ti at h;split at h
  ·rename_i hj;exact absurd hj (hn j (UN ..))
  ·rename_i u hu;split at h
   ·rename_i hg;split at h
    ·cases h
    ·intro i hi o ho;rcases TN.1 hi with rfl|hi
     ·rw [hu] at ho;cases ho;exact hg
     ·exact wS h (λi hi=>hn i (T5 _ hi)) i hi o ho
   ·cases h
section
variable {P:Program} {n:Nat} {ops:Array Oper} {M:Δ} {E0:En} {K:CK}
theorem yN {o:Oper} {E:En} {F:PH} {A B:En->Ψ} (h:aD P (execOp (ev E) o) F (bJ P A o E)) (hab:∀E' F',A E' F'->B E' F'):aD P (execOp (ev E) o) F (bJ P B o E):=
 cY _ _ h λnx F' hn=>by
  cases nx with
  |value v=>exact hab _ _ hn
  |skip=>exact hab _ _ hn
  |enter f args=>exact hn.mono λv F' h=>hab _ _ h
  |defer d=>exact ⟨hn.1,hab _ _ hn.2⟩
  |_=>exact hn
def jt (K:CK):Prop:=∀c σ F,¬K (.panic c) σ F
theorem km (hK:jt K) (hM:∀o∈ops.toList,∀t,o.dst=some t->t∈M):∀(k fuel:Nat) (listed:Array Bool) (pend:Pn) (Sp:ci) (σ:Sy) (E:En) (F:PH),Fr M E0 E->PW pend Sp->fN Sp F->
  sxD P n ops (K .normal) k fuel listed pend σ F->Rel σ E->RG P n ops (QK M E0 K) fuel listed Sp E F
 |0,fuel,listed,pend,Sp,σ,E,F,fr,pw,hh,h,r=>by unfold sxD at h;exact h.elim
 |k+1,fuel,listed,pend,Sp,σ,E,F,fr,pw,hh,h,r=>by
  have hp:∀c E F,¬QK M E0 K (.panic c) E F:=λc E F ⟨⟨σ,_,h⟩,_⟩=>hK c σ F h;have mem:∀{i:Nat} {o:Oper},ops[i]? =some o->o∈ops.toList:=λh=>by rw [<- U3] at h;exact TU h
  unfold sxD at h;split at h
  ·rename_i hr;exact Hz hr ⟨⟨σ,r,h⟩,fr⟩
  ·rename_i rs hne;split at h
   ·exact h.elim
   ·rename_i fuel;split at h
    ·rename_i i o g hpk;obtain ⟨hi,hg⟩:=wR hpk;obtain ⟨hb,h⟩:=eG h;simp only [Uw] at hb;obtain ⟨⟨⟨h1,h2⟩,h3⟩,h4⟩:=hb;have gk:=yL (ops:=ops) r o;rw [hg] at gk;split at h
     ·cases gk with
      |no hw=>exact HD hi h1 h2 h3 h4 hp hw hh (km hK hM k fuel _ pend Sp _ _ F (fr.trans (yK λt e=>hM o (mem hi) t e)) pw hh h (r.putO rfl))
     ·rename_i j b want;cases gk with
      |split _ _ _ v hj hv hw=>have h:=Ek h hv;exact km hK hM k (fuel+1) _ pend Sp _ _ F fr pw hh h (r.rf hj hv)
     ·cases gk with
      |go hw=>
       obtain ⟨σ',nv,ck,v,hy,r',hnv,hck,h⟩:=Ec h r;have fr':Fr M E0 (cM E o.dst v):=fr.trans (yK λt e=>hM o (mem hi) t e);cases ck with
       |none=>exact Of hi h1 h2 h3 h4 hp hw hck hh (km hK hM k fuel _ pend Sp _ _ F fr' pw hh h (r'.putO hnv))
       |some c=>refine Oe hi h1 h2 h3 h4 hp hw hy hh (km hK hM k fuel _ ((i,c)::pend) _ _ _ F fr' (.cons (λF hc=>AB (hck.2 F hc)) pw) (Ju (AB hy) hh) h (r'.putO hnv))
     ·exact h.elim
    ·rename_i hpk;have hall:=AN h;have hev:∀i∈Region.ready .any ops listed,∃o,ops[i]? =some o/\_:=λi hi=>by
      have:=hall _ (T3.2 ⟨i,hi,rfl⟩);split at this
      ·exact this.elim
      ·rename_i o ho;exact ⟨o,ho,this⟩
     have hgo:=wS hpk (λi hi e=>by obtain ⟨o,ho,_⟩:=hev i hi;rw [e] at ho;cases ho);refine LJ rfl (by cases hl:Region.ready .any ops listed with|nil=>exact absurd hl hne|cons _ _=>rfl) λi hi=> ?_;obtain ⟨o,ho,hx⟩:=hev i hi;obtain ⟨hd,hx⟩:=eG hx;have gk:=yL (ops:=ops) r o;rw [hgo i hi o ho] at gk;cases gk with
     |go hw=>
      refine ⟨o,ho,hd,hw,yN (Ej hx r) ?_⟩;rintro E' F' ⟨fl,σ',hl,r',hf,h⟩;have fr':Fr M E0 E':=fr.trans λt ht=>hf t λe=>qy (hM o (mem ho) t e) ht rfl;cases fl with
      |true=>have hh':=HJ (hl rfl) (Cy (o:=o) hh);exact ⟨hh',km hK hM k fuel _ _ _ _ _ F' fr' pw.rest hh' h r'⟩
      |false=>obtain ⟨hh',h⟩:=HH pw.rest h;exact ⟨hh',km hK hM k fuel _ _ _ _ _ F' fr' pw.rest hh' h r'⟩
end
end Go.Proofs.YtcemhghkipgdiaaGreatDoor.Rx

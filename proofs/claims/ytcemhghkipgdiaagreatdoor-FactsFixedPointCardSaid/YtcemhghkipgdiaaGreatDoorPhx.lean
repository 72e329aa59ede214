/-
  A reader of code. Part 6: regions in any order; code; functions.
-/
import Derived.Test.YtcemhghkipgdiaaGreatDoorPht
namespace Go.Proofs.YtcemhghkipgdiaaGreatDoor.Rx
open Go
section
variable {P:Program} {σ:Sy} {E:En} {F:PH} {x y:Operand} {o:Oper}
theorem N7 {α β:Type} {f:α->β} {l:List α} {a b:β} (h:l.map f=[a,b]):∃x y,l=[x,y]/\f x=a/\f y=b:=by
 rcases l with _|⟨x,_|⟨y,_|⟨z,l⟩⟩⟩<;>simp at h
 exact ⟨x,y,rfl,h⟩
theorem N8 {α β:Type} {f:α->β} {l:List α} {a b c:β} (h:l.map f=[a,b,c]):∃x y z,l=[x,y,z]/\f x=a/\f y=b/\f z=c:=by
 rcases l with _|⟨x,_|⟨y,_|⟨z,_|⟨u,l⟩⟩⟩⟩<;>simp at h
 exact ⟨x,y,z,rfl,h⟩
theorem d9 {b:Bool} {K:Prop} (h:okN b K):b=true/\K:=by cases b;exact h.elim;exact ⟨rfl,h⟩
theorem ud {d:TypeDesc} (h:kdD d=.agg):jX d=true:=by cases d<;>simp [kdD] at h<;>rfl
theorem oB {d:TypeDesc} (h:kdD d≠.agg):jX d=false:=by cases d<;>first|rfl|exact absurd rfl h
theorem GB {t:TypeId} {a:Addr} {K:NV->(Ψ)->Prop} (h:KD P t a F K) (r:Rel σ E) (ho:o.op=.load t x) (hx:ev E x=.pointer (some a)):
  ∃nv v c,c F/\(∀F':PH,c F'->RD P E F' o v)/\(∀T,iY T nv v)/\K nv c:=by
 unfold KD at h;split at h
 ·exact h.elim
 ·rename_i d hd;split at h
  ·rename_i hk;split at h
   ·rename_i n b hz;obtain ⟨v,rfl,hr,h⟩:=h;exact ⟨.sv (.c (.agg v)),.agg v,λF=>F.row a v,hr,λF' hr=>Gb ho hx hd (ud hk) hz hr,λ_=>rfl,h⟩
   ·exact h.elim
  ·rename_i hk;obtain ⟨v,hc,h⟩:=h;exact ⟨_,_,_,hc,λF' hc=>Ga ho hx hd (oB hk) hc,λ_=>pZ _ v,h⟩
theorem gW {y:Option Operand} {dflt:Nat} {K:Nat->Prop} (h:ug σ y dflt K) (r:Rel σ E):∃l,dr (y.map (ev E)) dflt l/\K l:=by
 unfold ug at h;split at h
 ·exact ⟨dflt,tY,h⟩
 ·rename_i y;split at h
  ·rename_i k i hw;split at h
   ·split at h
    ·rename_i hi;exact ⟨_,Iy (ovc r hw) (of_decide_eq_true hi),h⟩
    ·exact h.elim
   ·exact ⟨_,Iy (ovc r hw) h.1,h.2⟩
  ·exact h.elim
theorem pW {place:Nat->Option (Nat×Nat)} {n:Nat} (r:Rel σ E):∀(l:List (Nat×Operand)) (cs:Γ) {K:Γ->Prop},cs.size=n->bld σ place n l cs K->
  ∃res,Instr.fill place cs (l.map λp=>(p.1,ev E p.2))=some res/\K res
 |[],cs,K,_,h=>⟨cs,rfl,h⟩
 | (i,x)::l,cs,K,hn,h=>by
  unfold bld at h;split at h
  ·exact h.elim
  ·rename_i off s hp;have one:∀{v:Value},ev E x=v->v.cells= #[v]->Nat.beq s 1=true->Nat.blt off n=true->bld σ place n l (cs.setIfInBounds off v) K->
     ∃res,Instr.fill place cs (((i,x)::l).map λp=>(p.1,ev E p.2))=some res/\K res:=by
    clear h;intro v hx hc hs ho h;obtain rfl:=TU hs;obtain ⟨res,h1,h2⟩:=pW r l _ (by simpa using hn) h;refine ⟨res,?_,h2⟩;rw [S4];show Instr.fill place cs ((i,ev E x)::_)=_;rw [hx];exact Iv hp hc (by rw [hn];exact ho) h1
   split at h
   ·rename_i c hw;split at h
    ·rename_i ho;obtain ⟨hs,h⟩:=h;obtain ⟨res,h1,h2⟩:=pW r l _ (by rw [dJ];exact hn) h;refine ⟨res,?_,h2⟩;rw [S4];show Instr.fill place cs ((i,ev E x)::_)=_;rw [ovc r hw];exact Iw hp hs (by rw [hn];exact ho) h1
    ·exact h.elim
   ·rename_i v hna hw;split at h
    ·rename_i h1 h2;exact one (ovc r hw) (by cases v<;>first|rfl|exact absurd rfl (hna _)) h1 h2 h
    ·exact h.elim
   ·exact h.elim
   ·rename_i w hna hnc hnn;split at h
    ·rename_i v h1 h2 hv;refine one (bh r rfl hv) ?_ h1 h2 h;cases hw:σ.ov x<;>rw [hw] at hv<;>simp only [VW.val] at hv<;>first|(cases hv;done)|(cases hv;rfl)|(exact absurd hw (hna _))|(exact absurd hw (hnc _))|exact absurd hw (hnn _)
    ·exact h.elim
variable {K:RK}
theorem yc.of (r:Rel σ E) (h:BP P E o λv=>K σ v none):yc P E F o K:=by obtain ⟨nv,v,h1,h2,h3⟩:=h;exact .pure h1 r h3 (h2 _)
theorem DF (h:sxR P σ o F K) (r:Rel σ E):yc P E F o K:=by
 cases ho:o.op<;>simp only [sxR,ho] at h<;>try exact h.elim
 case move x=>exact .pure (λF=>Kf ho rfl) r h (sF r x)
 case assign x=>exact .pure (λF=>Dk ho rfl) r h (sF r x)
 case pick c a b=>
  split at h
  ·rename_i hc;exact .pure (λF=>t7 ho (bh r hc rfl) (λ_=>rfl) (λh=>by cases h)) r h (sF r a)
  ·rename_i hc;exact .pure (λF=>t7 ho (bh r hc rfl) (λh=>by cases h) (λ_=>rfl)) r h (sF r b)
  ·exact h.elim
 case nilCheck x=>
  split at h
  ·rename_i hw;refine .pure (λF=>vR ho (ovc r hw)) r h ?_;show okV _ _ _;rw [<- ovc r hw];exact sF r x
  ·obtain ⟨σ',a,r',hx,h⟩:=j0 h r;exact .pure (λF=>xL ho hx) r' h rfl
 case extract x i=>
  split at h
  ·rename_i vs hw;split at h
   ·rename_i v hv;exact .pure (λF=>so ho (ovc r hw) hv) r h (DQ _ v)
   ·exact h.elim
  ·rename_i w hw;obtain ⟨v,hv,h⟩:=h;exact .pure (λF=>so ho (bh r hw rfl) hv) r h (pZ _ v)
  ·exact h.elim
 case fieldAddr t x i=>
  split at h
  ·rename_i fs ht;split at h
   ·rename_i f hf;split at h
    ·rename_i s b hz;obtain ⟨σ',a,r',hx,h⟩:=j0 h r;exact .pure (λF=>vU ho hx ht hf hz (by omega)) r' h rfl
    ·exact h.elim
   ·exact h.elim
  ·exact h.elim
 case load t x=>
  obtain ⟨σ',a,r',hx,h⟩:=j0 h r;obtain ⟨nv,v,c,h1,h2,h3,h⟩:=GB h r' ho hx;exact .chk h1 h2 r' h (h3 _)
 case indexAddr t x y=>
  split at h
  ·rename_i k i e hy ht;split at h
   ·rename_i base len cap s b hx hz;obtain ⟨a,rfl,h1,h2,h⟩:=h;exact .pure (λF=>rC ho (ovc r hx) (ovc r hy) ht hz h1 (by exact_mod_cast h2)) r h rfl
   ·exact h.elim
  ·rename_i k i n e hy ht;split at h
   ·rename_i s b hz;obtain ⟨σ',a,r',hx,h1,h2,h⟩:=j0 h r;exact .pure (λF=>rD ho hx (ovc r hy) ht hz h1 (by exact_mod_cast h2)) r' h rfl
   ·exact h.elim
  ·exact h.elim
 case index t x y=>
  split at h
  ·rename_i s k i hx hy ht;obtain ⟨h1,h2,h3,v,rfl,h⟩:=h;exact .pure (λF=>xP ho (ovc r hx) (ovc r hy) ht h1 (by exact_mod_cast h2)) r h rfl
  ·rename_i cs k i n e hx hy ht;split at h
   ·rename_i d s b hd hz;split at h
    ·exact h.elim
    ·rename_i hk;obtain ⟨h1,h2,v,hv,h⟩:=h;exact .pure (λF=>vV ho (ovc r hx) (ovc r hy) ht hz hd (oB hk) h1 (by exact_mod_cast h2) hv) r h (pZ _ v)
   ·exact h.elim
  ·exact h.elim
 case field t x i=>
  split at h
  ·rename_i cs fs hx ht;split at h
   ·rename_i f hf;split at h
    ·rename_i d s b hd hz;split at h
     ·rename_i hk;exact .pure (λF=>Dp ho (ovc r hx) ht hf hd (ud hk) hz) r h rfl
     ·rename_i hk;obtain ⟨v,hv,h⟩:=h;exact .pure (λF=>Do ho (ovc r hx) ht hf hd (oB hk) hv) r h (pZ _ v)
    ·exact h.elim
   ·exact h.elim
  ·exact h.elim
 case binOp op t x y t'=>exact .of r (DS h r ho)
 case unOp op t x=>
  split at h
  ·rename_i b hx;exact .pure (λF=>Dm ho (bh r hx rfl)) r h rfl
  ·rename_i i b hx;exact .pure (λF=>Dm ho (bh r hx rfl)) r h rfl
  ·rename_i i p d hx;refine .pure (v:=.bool (@decide (¬p) (@instDecidableNot p d))) (λF=> ?_) r h rfl;have:=Dm (P:=P) (F:=F) ho (bh r hx rfl);rw [show (!@decide p d)= @decide (¬p) (@instDecidableNot p d) by cases d<;>rfl] at this;exact this
  ·rename_i k a hx;exact .pure (λF=>Nr ho (ovc r hx)) r h rfl
  ·exact h.elim
 case convert t t' x=>
  split at h
  ·rename_i k a d k' hx ht ht';exact .pure (λF=>BK ho (ovc r hx) ht ht') r h rfl
  ·rename_i b l c e hx ht ht';split at h
   ·rename_i he;obtain ⟨s,hs,h⟩:=h;exact .chk hs (λF' hs=>C8 ho (ovc r hx) ht ht' he ⟨_,_,_,rfl⟩ hs) r h rfl
   ·exact h.elim
  ·exact h.elim
 case slice t x lo hi mx=>
  split at h
  ·rename_i e ht;split at h
   ·rename_i b len cap sz z hx hz;obtain ⟨l,hl,h⟩:=gW h r;obtain ⟨u,hu,h1,h2,h⟩:=gW h r;exact .pure (λF=>BM (s:=⟨b,len,cap⟩) ho (ovc r hx) ht hz hl hu h1 h2) r h rfl
   ·exact h.elim
  ·rename_i ht;split at h
   ·rename_i s hx;obtain ⟨l,hl,h⟩:=gW h r;obtain ⟨u,hu,h1,h2,h⟩:=gW h r;exact .pure (λF=>xR ho (ovc r hx) ht hl hu h1 h2) r h rfl
   ·exact h.elim
  ·rename_i n e ht;split at h
   ·rename_i sz z hz;obtain ⟨σ',a,r',hx,h⟩:=j0 h r;exact .pure (λF=>sB ho hx ht hz tY tY (Nat.zero_le _) (SC _)) r' h rfl
   ·rename_i sz z hz hnn;obtain ⟨σ',a,r',hx,h⟩:=j0 h r;obtain ⟨l,hl,h⟩:=gW h r';obtain ⟨u,hu,h1,h2,h⟩:=gW h r';exact .pure (λF=>sB ho hx ht hz hl hu h1 h2) r' h rfl
   ·exact h.elim
  ·rename_i e m ht;split at h
   ·rename_i b len cap sz z k i k' m' hx hz hhi hm;obtain ⟨l,hl,h0,hm0,h1,h2,h3,h⟩:=gW h r;cases hi with
    |none=>simp at hhi
    |some hi=>simp only [Tt,Option.some.injEq] at hhi;exact .pure (λF=>xQ (s:=⟨b,len,cap⟩) ho (ovc r hx) ht hz hl (ovc r hhi) (ovc r hm) h0 hm0 h1 h2 h3) r h rfl
   ·exact h.elim
  ·exact h.elim
 case build t parts=>
  split at h
  ·rename_i fs z ht hz;obtain ⟨hk,h⟩:=d9 h;obtain ⟨res,h1,h⟩:=pW r _ _ rfl h;exact .pure (λF=>rE ho ht hz hk (by simp) h1) r h rfl
  ·rename_i n e z ht hz;split at h
   ·rename_i s b hs;obtain ⟨res,h1,h⟩:=pW r _ _ rfl h;exact .pure (λF=>t8 ho ht hz hs (by simp) h1) r h rfl
   ·exact h.elim
  ·exact h.elim
 case makeFunc fn first cap=>
  cases fn<;>simp only at h<;>try exact h.elim
  obtain ⟨us,h1,h⟩:=jl r _ h;obtain ⟨vs,h2,h⟩:=jl r _ h;have h1':first.map (ev E)=us.toArray:=by rw [<- h1,<- Array.toList_map,Array.toArray_toList]
  have h2':cap.map (ev E)=vs.toArray:=by rw [<- h2,<- Array.toList_map,Array.toArray_toList]
  exact .pure (λF=>xM ho h1' h2') r h rfl
 case lookup t x y ok=>
  split at h
  ·rename_i u v kt e hu hv ht;split at h
   ·obtain ⟨q,b,h1,h⟩:=h;exact .chk h1 (λF' h1=>vY ho (bh r rfl hu) (bh r rfl hv) h1) r h rfl
   ·obtain ⟨q,h1,h⟩:=h;exact .chk h1 (λF' h1=>vY ho (bh r rfl hu) (bh r rfl hv) h1) r h (pZ _ q)
  ·exact h.elim
 case entry x=>
  split at h
  ·rename_i u hu;obtain ⟨w,h1,h⟩:=h;exact .chk h1 (λF' h1=>FT ho (bh r rfl hu) h1) r h rfl
  ·exact h.elim
 case call c=>
  obtain ⟨cal,args,ts⟩:=c;obtain ⟨args⟩:=args;obtain ⟨ts⟩:=ts;cases cal<;>simp only at h<;>try exact h.elim
  rename_i b;split at h
  ·rename_i bs l cp t heq;obtain ⟨x,rfl,hx⟩:=TT.1 heq;split at h
   ·rename_i ht;exact .pure (λF=>FY (s:=⟨bs,l,cp⟩) ho (ovc r hx) ht) r h rfl
   ·exact h.elim
  ·rename_i s t heq;obtain ⟨x,rfl,hx⟩:=TT.1 heq;split at h
   ·rename_i ht;exact .pure (λF=>Dn ho (ovc r hx) ht) r h rfl
   ·exact h.elim
  ·rename_i m t heq;obtain ⟨x,rfl,hx⟩:=TT.1 heq;obtain ⟨v,h1,h⟩:=h;exact .chk h1 (λF' h1=>C9 ho (ovc r hx) h1) r h rfl
  ·rename_i bs l cp t heq;obtain ⟨x,rfl,hx⟩:=TT.1 heq;split at h
   ·rename_i ht;exact .pure (λF=>FZ (s:=⟨bs,l,cp⟩) ho (ovc r hx) ht) r h rfl
   ·exact h.elim
  ·rename_i k a k' b' heq;obtain ⟨x,y,rfl,hx,hy⟩:=N7 heq;obtain ⟨hk,h'⟩:=d9 h;obtain rfl:=of_decide_eq_true hk;exact .pure (λF=>Kk ho (ovc r hx) (ovc r hy)) r h' rfl
  ·rename_i k a k' b' heq;obtain ⟨x,y,rfl,hx,hy⟩:=N7 heq;obtain ⟨hk,h'⟩:=d9 h;obtain rfl:=of_decide_eq_true hk;exact .pure (λF=>Kl ho (ovc r hx) (ovc r hy)) r h' rfl
  ·rename_i k a k' b' k'' c' heq;obtain ⟨x,y,z,rfl,hx,hy,hz⟩:=N8 heq;obtain ⟨hk,h'⟩:=d9 h;obtain ⟨rfl,rfl⟩:=of_decide_eq_true hk;exact .pure (λF=>Km ho (ovc r hx) (ovc r hy) (ovc r hz)) r h' rfl
  ·rename_i k a k' b' k'' c' heq;obtain ⟨x,y,z,rfl,hx,hy,hz⟩:=N8 heq;obtain ⟨hk,h'⟩:=d9 h;obtain ⟨rfl,rfl⟩:=of_decide_eq_true hk;exact .pure (λF=>Kn ho (ovc r hx) (ovc r hy) (ovc r hz)) r h' rfl
  ·exact h.elim
end
end Go.Proofs.YtcemhghkipgdiaaGreatDoor.Rx
namespace Go.Proofs.YtcemhghkipgdiaaGreatDoor.Rx
open Go
theorem Kz {F:PH} {b:Nat} {o:Obj} (hb:F b=none):F.le (F.set b o):=λx u hx=>by
 have:x≠b:=λe=>by rw [e,hb] at hx;cases hx
 rw [xT _ _ this];exact hx
section
variable {P:Program} {σ:Sy} {E:En} {F:PH} {x y z:Operand} {o:Oper}
def KK (F:PH) (E:En) (o:Oper) (K:EK) (E':En) (F':PH):Prop:=∃fl σ',(fl=true->F.le F')/\Rel σ' E'/\(∀t,o.dst≠some t->E' t=E t)/\K fl σ' F'
def KA (P:Program) (E:En) (F:PH) (o:Oper) (K:EK):Prop:=aD P (execOp (ev E) o) F (bG P (KK F E o K) o E)
theorem oC {d:Option Tmp} {v:Value} {t:Nat} (h:d≠some t):cJ E d v t=E t:=by
 cases d with
 |none=>rfl
 |some d=>simp only [cJ,upd,jY (λe:t=d=>h (by rw [e]))];rfl
variable {K:EK}
theorem KK.mk {nv:NV} {v:Value} {F':PH} {fl:Bool} (r:Rel σ E) (h:K fl (σ.putO o.dst nv) F') (hv:iY σ.T nv v) (hl:fl=true->F.le F'):KK F E o K (cJ E o.dst v) F':=
 ⟨fl,_,hl,r.putO hv,λ_ ht=>oC ht,h⟩
theorem KK.f {nv:NV} {v:Value} {F':PH} (r:Rel σ E) (h:K false (σ.putO o.dst nv) F') (hv:iY σ.T nv v):KK F E o K (cJ E o.dst v) F':=KK.mk r h hv (λh=>by cases h)
theorem gX {ob:Obj} {s:Nat->SV} {v:Nat->Value} (h:sxN σ o.dst ob s F K) (r:Rel σ E) (hv:∀b,okV σ.T (s b) (v b)):∀b,F b=none->KK F E o K (cJ E o.dst (v b)) (F.set b ob):=
 λb hb=>KK.mk r (atE (h b hb)) (hv b) (λ_=>Kz hb)
theorem GC {d:Option Tmp} {t:TypeId} {v:Value} {K:Sy->Prop} (h:wc P σ d t v K) (r:Rel σ E):∃σ',Rel σ' (cJ E d v)/\K σ':=by
 unfold wc at h;split at h
 ·exact ⟨σ,r,h⟩
 ·rename_i d;split at h
  ·split at h
   ·obtain ⟨rfl,h⟩:=h;exact ⟨_,r.put (show iY σ.T (.sv (.c (.tuple _))) _ from rfl),h⟩
   ·obtain ⟨a,rfl,h⟩:=h;exact ⟨_,r.put (show iY σ.T (.sv (.c (.tuple _))) _ from rfl),h⟩
   ·obtain ⟨a,b,rfl,h⟩:=h;exact ⟨_,r.put (show iY σ.T (.sv (.c (.tuple _))) _ from rfl),h⟩
   ·obtain ⟨a,b,c,rfl,h⟩:=h;exact ⟨_,r.put (show iY σ.T (.sv (.c (.tuple _))) _ from rfl),h⟩
   ·obtain ⟨a,b,c,e,rfl,h⟩:=h;exact ⟨_,r.put (show iY σ.T (.sv (.c (.tuple _))) _ from rfl),h⟩
   ·exact h.elim
  ·obtain ⟨a,rfl,h⟩:=h;exact ⟨_,r.put (pZ _ a),h⟩
theorem x7 {t:TypeId} {v:Value} {F':PH} (h:wc P σ o.dst t v λσ=>K false σ F') (r:Rel σ E):KK F E o K (cJ E o.dst v) F':=by obtain ⟨σ',r',h⟩:=GC h r;exact ⟨false,σ',(λh=>by cases h),r',λ_ ht=>oC ht,h⟩
theorem oD {w:VW} {v:Value} (hv:w.val=some v) (h1:∀c,w≠.c (.agg c)) (h2:∀u,w≠.any u):v.cells= #[v]:=by
 cases w<;>simp only [VW.val] at hv<;>first|(cases hv;done)|(cases hv;rfl)|exact absurd rfl (h2 _)|skip
 rename_i u;cases hv;cases v<;>first|rfl|exact absurd rfl (h1 _)
theorem DG {w:VW} {v:Value} (hv:w.val=some v) (h1:∀c,w≠.c (.agg c)) (h2:∀u,w≠.any u) (h3:∀u,w≠.c (.tuple u)) (h4:∀u,w≠.vt u) (h5:w≠.und):ak v:=by
 cases w<;>simp only [VW.val] at hv<;>first|(cases hv;done)|exact absurd rfl (h2 _)|exact absurd rfl (h4 _)|exact absurd rfl h5|skip
 all_goals cases hv
 case c.refl=>exact ⟨λc e=>h1 c (by rw [e]),λc e=>h3 c (by rw [e])⟩
 all_goals exact ⟨(λ_ h=>by cases h),(λ_ h=>by cases h)⟩
theorem zZ (r:Rel σ E):∀(l:List (Nat×Operand)) (k:Nat) {us:Ξ},GH σ k l=some us->(l.map λp=>(p.1,ev E p.2))=zJ k us/\FU us/\us.length=l.length
 |[],k,us,h=>by cases h;exact ⟨rfl,trivial,rfl⟩
 | (i,x)::l,k,us,h=>by
  unfold GH at h;split at h
  ·cases h
  ·cases h
  ·rename_i hi h1 h2;split at h
   ·rename_i v vs hv hs;cases h;obtain ⟨e1,e2,e3⟩:=zZ r l _ hs;obtain rfl:=TU hi;refine ⟨?_,⟨oD hv (λc e=>h1 c e) (λu e=>h2 u e),e2⟩,by simp [e3]⟩;rw [S4,e1];show (i,ev E x)::_=(i,v)::_;rw [bh r rfl hv]
   ·cases h
  ·cases h
theorem DH {t:TypeId} {s:ByteArray} {K:En->Ψ} (ho:o.op=.range t x) (hx:ev E x=.string s) (h1:P.underlying t=some .string) (h:∀b,F b=none->K (cJ E o.dst (.pointer (some ⟨b,0,none⟩))) (F.set b (.stringIter s 0))):
  aD P (execOp (ev E) o) F (bG P K o E):=by
 simp only [execOp,ho,hx,Instr.range,aA,bR h1,aJ,newObj,aD,bG];exact h
theorem DI {t:TypeId} {v:Value} {K:En->Ψ} (ho:o.op=.range t x) (hx:ev E x=v) (h:aD P (Instr.range t v) F λr F'=>K (cJ E o.dst r) F'):aD P (execOp (ev E) o) F (bG P K o E):=by simp only [execOp,ho,hx,aA,aJ,bG];exact h
theorem KB {v:Value} {is:Bool} {K:En->Ψ} (ho:o.op=.next x is) (hx:ev E x=v) (h:aD P (Instr.next v is o.type) F λr F'=>K (cJ E o.dst r) F'):aD P (execOp (ev E) o) F (bG P K o E):=by simp only [execOp,ho,hx,aA,aJ,bG];exact h
theorem DJ {t:TypeId} {u v q:Value} {K:En->Ψ} (ho:o.op=.insert t x y z) (hx:ev E x=u) (hy:ev E y=v) (hz:ev E z=q)
  (h:aD P (Instr.mapUpdate t u v q) F λ_ F'=>K (cJ E o.dst undef) F'):aD P (execOp (ev E) o) F (bG P K o E):=by
 subst hx hy hz;have:execOp (ev E) o=execOp (ev E) {o with op:=.mapUpdate t x y z}:=by simp only [execOp,ho]
 rw [this];exact nr (o:={o with op:=.mapUpdate t x y z}) rfl rfl rfl rfl h
theorem DK {ts:Array TypeId} {u v:Value} {K:En->Ψ} (ho:o.op=.call ⟨.builtin .delete,#[x,y],ts⟩) (hx:ev E x=u) (hy:ev E y=v) (h:aD P (Builtin.delete_ ts o.type #[u,v]) F λr F'=>K (cJ E o.dst r) F'):
  aD P (execOp (ev E) o) F (bG P K o E):=by
 simp [execOp,ho,resolve,hx,hy,invoke,builtin,bG];exact h
theorem DL (h:sxE P σ o F K) (r:Rel σ E):KA P E F o K:=by
 cases ho:o.op<;>simp only [sxE,ho] at h<;>try exact h.elim
 case alloc t=>
  split at h
  ·rename_i z hz;exact Gc ho hz (gX h r (λ_=>rfl))
  ·exact h.elim
 case box t x=>
  split at h
  ·rename_i c hw;exact Dq ho (ovc r hw) (gX h r (λ_=>rfl))
  ·rename_i v hw;obtain ⟨hc,h⟩:=h;rw [<- hc] at h;exact Dq ho (bh r hw rfl) (gX h r (λ_=>rfl))
  ·rename_i h1 h2;split at h
   ·rename_i v hv;have hc:v.cells= #[v]:=oD hv (λc e=>h1 c e) (λu e=>h2 u e);rw [<- hc] at h;exact Dq ho (bh r rfl hv) (gX h r (λ_=>rfl))
   ·exact h.elim
 case buildSlice t m parts=>
  split at h
  ·rename_i e ht;split at h
   ·rename_i s b z hz hzz;split at h
    ·rename_i hm hs h0;have hm':m*s<=16777216:=Ua hm;have hs':z.cells.size=s:=TU hs;split at h
     ·rename_i l h1 h2 hl;obtain rfl:=TU h1;obtain ⟨e1,e2,e3⟩:=zZ r _ _ hl;exact gU ho ht hz hm' hzz (by simpa using e1) (FV (by rw [e3];exact TU h2) rfl hs' e2) (by rw [hs']) (gX h r (λ_=>rfl))
     ·split at h
      ·rename_i c heq hn;obtain ⟨hcs,h⟩:=h;obtain ⟨p,hp,hpe⟩:=TT.1 heq;obtain ⟨i,x⟩:=p;simp only [Us] at hpe;obtain ⟨rfl,hx⟩:=hpe;exact gU (vs:=[(0,.agg c)]) ho ht hz hm' hzz (by simp [hp,ovc r hx]) (BG hcs hs' h0) (by rw [hs']) (gX h r (λ_=>rfl))
      ·obtain ⟨res,e1,h⟩:=pW r _ _ (by rw [<- ou _ (by rw [hs'];exact h0)];simp [Builtin.zeroCells,hs']) h;refine gU (vs:=parts.toList.map λp=>(p.1,ev E p.2)) ho ht hz hm' hzz (by simp) (cells:=res) ?_ (by rw [hs']) (gX h r (λ_=>rfl));rw [ou _ (by rw [hs'];exact h0)];exact e1
    ·exact h.elim
   ·exact h.elim
  ·exact h.elim
 case store t x y=>
  obtain ⟨σ',a,r',hx,h⟩:=j0 h r;have st:∀{v:Value} {b:Nat},ev E y=v->tsz P t=some (1,b)->v.cells= #[v]->ak v->sto F a v (λF=>K false (σ'.putO o.dst (.sv .und)) F)->KA P E F o K:=by intro v b hy hz hc hst ⟨c,e,h1,h2,h3,h4⟩;exact Dr ho hx hy hz hc rfl hst h2 h1 h3 (KK.f r' (atE h4) rfl)
  split at h
  ·rename_i v n b hy hz;obtain ⟨h1,h2,c,e,h3,h4,h5,h6⟩:=h;refine Ds ho hx (ovc r' hy) hz h1 h2 (λh0=> ?_) h4 h3 h5 (KK.f r' (atE h6) rfl);have:v.toList.length=0:=by rw [h0];rfl
   simp at this;simp [this] at h1
  ·exact h.elim
  ·rename_i v b hna hnt hy hz;exact st (ovc r' hy) hz (oD (w:=.c v) rfl (λc e=>hna c (by cases e;rfl)) (λu e=>by cases e)) (DG (w:=.c v) rfl (λc e=>hna c (by cases e;rfl)) (λu e=>by cases e) (λc e=>hnt c (by cases e;rfl)) (λu e=>by cases e) (λe=>by cases e)) h
  ·rename_i v b hy hz;exact st (bh r' hy rfl) hz h.2.1 h.1 h.2.2
  ·exact h.elim
  ·exact h.elim
  ·rename_i b hz h2 h3 h4 h5 h6 h7;split at h
   ·rename_i v hv;exact st (bh r' rfl hv) hz (oD hv (λc e=>h2 c e) (λu e=>h5 u e)) (DG hv (λc e=>h2 c e) (λu e=>h5 u e) (λc e=>h3 c e) (λu e=>h6 u e) (λe=>h7 e)) h
   ·exact h.elim
  ·exact h.elim
 case range t x=>
  split at h
  ·rename_i s ht hx;exact DH ho (ovc r hx) ht (gX h r (λ_=>rfl))
  ·split at h
   ·rename_i v hv;exact DI ho (bh r rfl hv) (cV _ _ h λu F' ⟨b,hb,h⟩=>by subst hb;exact KK.f r h rfl)
   ·exact h.elim
  ·exact h.elim
 case next x is=>
  split at h
  ·rename_i v hv;exact KB ho (bh r rfl hv) (cV _ _ h λu F' ⟨b,hb,h⟩=>by subst hb;exact KK.f r h rfl)
  ·exact h.elim
 case makeSlice t x y=>
  split at h
  ·rename_i u v hu hv;exact vX ho (bh r rfl hu) (bh r rfl hv) (cV _ _ h λu F' ⟨b,hb,h⟩=>by subst hb;exact KK.f r h rfl)
  ·exact h.elim
 case makeMap t q=>
  cases q<;>simp only at h<;>try exact h.elim
  exact xU ho (gX h r (λ_=>rfl))
 case mapUpdate t x y z=>
  split at h
  ·rename_i u v w hu hv hw;exact nr ho (bh r rfl hu) (bh r rfl hv) (bh r rfl hw) (cV _ _ h λu F' h=>KK.f r h rfl)
  ·exact h.elim
 case insert t x y z=>
  split at h
  ·rename_i u v w hu hv hw;exact DJ ho (bh r rfl hu) (bh r rfl hv) (bh r rfl hw) (cV _ _ h λu F' h=>KK.f r h rfl)
  ·exact h.elim
 case defer c=>
  obtain ⟨cal,args,ts⟩:=c;obtain ⟨args⟩:=args;cases cal with
  |value g=>
   obtain ⟨us,h1,h⟩:=jl r _ h;split at h
   ·rename_i f a b hg;exact Gf ho (ovc r hg) (by rw [<- h1];simp) h.1 (KK.f r h.2 rfl)
   ·exact h.elim
  |_=>exact h.elim
 case call c=>
  obtain ⟨cal,args,ts⟩:=c;obtain ⟨args⟩:=args;cases cal with
  |invoke=>exact h.elim
  |builtin b=>
   simp only at h;split at h
   ·split at h
    ·rename_i x y u v hu hv;exact Dt ho (bh r rfl hu) (bh r rfl hv) (cV _ _ h λu F' ⟨b,hb,h⟩=>by subst hb;exact KK.f r h rfl)
    ·exact h.elim
   ·split at h
    ·rename_i x y u v hu hv;exact Kp ho (bh r rfl hu) (bh r rfl hv) (cV _ _ h λu F' ⟨b,hb,h⟩=>by subst hb;exact KK.f r h rfl)
    ·exact h.elim
   ·split at h
    ·rename_i x y u v hu hv;exact DK ho (bh r rfl hu) (bh r rfl hv) (cV _ _ h λu F' h=>KK.f r h True.intro)
    ·exact h.elim
   ·exact h.elim
  |value g=>
   have cF:∀(h:ue σ args λvs=>(match σ.ov g with
     | .c (.func (.func f) a b)=>okN (aB P f) (aj P f (a++vs.toArray++b) F λv F=>wc P σ o.dst o.type v λσ=>K false σ F)
     | .any u=>∃(k:Nat) (a b:Γ),u=.func (.func k) a b/\aB P k=true/\aj P k (a++vs.toArray++b) F λv F=>wc P σ o.dst o.type v λσ=>K false σ F
     |_=>False)),KA P E F o K:=by
    intro h;obtain ⟨us,h1,h⟩:=jl r _ h;split at h
    ·rename_i f a b hg;obtain ⟨hc,h⟩:=d9 h;exact zO ho (ovc r hg) hc (by rw [<- h1];simp) (h.mono λv F' h=>x7 h r)
    ·rename_i u hg;obtain ⟨f,a,b,rfl,hc,h⟩:=h;exact zO ho (bh r hg rfl) hc (by rw [<- h1];simp) (h.mono λv F' h=>x7 h r)
    ·exact h.elim
   cases g with
   |func f=>obtain ⟨us,h1,h⟩:=jl r _ h;obtain ⟨hc,h⟩:=d9 h;exact Ko ho hc (by rw [<- h1];simp) (h.mono λv F' h=>x7 h r)
   |_=>exact cF h
end
end Go.Proofs.YtcemhghkipgdiaaGreatDoor.Rx
namespace Go.Proofs.YtcemhghkipgdiaaGreatDoor.Rx
open Go
section
variable {P:Program} {σ:Sy} {E:En} {F:PH} {n:Nat} {ops:Array Oper}
def Fr (M:Δ) (E E':En):Prop:=∀t,nO M t=false->E' t=E t
theorem vZ {a b:Δ} {t:Nat}:nO (a++b) t=false↔nO a t=false/\nO b t=false:=by
 induction a with
 |nil=>simp [nO]
 |cons x a ih=>simp only [Tm,nO];cases Nat.beq t x<;>simp [ih]
theorem Fr.refl {M:Δ} {E:En}:Fr M E E:=λ_ _=>rfl
theorem Fr.trans {M:Δ} {E E' E'':En} (h:Fr M E E') (h':Fr M E' E''):Fr M E E'':=λt ht=>(h' t ht).trans (h t ht)
theorem Fr.left {a b:Δ} {E E':En} (h:Fr a E E'):Fr (a++b) E E':=λt ht=>h t (vZ.1 ht).1
theorem Fr.right {a b:Δ} {E E':En} (h:Fr b E E'):Fr (a++b) E E':=λt ht=>h t (vZ.1 ht).2
theorem pX {M:Δ} {d:Nat} (h:d∈M) {t:Nat} (ht:nO M t=false):t≠d:=by
 induction M with
 |nil=>cases h
 |cons x M ih=>
  simp only [nO] at ht;intro e;subst e;rcases Sw.1 h with rfl|h
  ·have:Nat.beq t t=true:=by simp
   rw [this] at ht;cases ht
  ·cases hb:Nat.beq t x<;>rw [hb] at ht
   ·exact ih h ht rfl
   ·cases ht
theorem x8 {M:Δ} {d:Option Tmp} {v:Value} (h:∀t,d=some t->t∈M):Fr M E (cJ E d v):=λt ht=>oC λe=>pX (h t e) ht rfl
theorem v8 {l:List Oper} {o:Oper} {d:Nat} (ho:o∈l) (hd:o.dst=some d):d∈DO l:=by
 induction l with
 |nil=>cases ho
 |cons x l ih=>
  unfold DO;rcases Sw.1 ho with rfl|ho
  ·rw [hd];exact TG ..
  ·split
   ·exact SN _ (ih ho)
   ·exact ih ho
def QK (M:Δ) (E0:En) (K:CK):Exit->En->Ψ:=λex E F=>(∃σ,Rel σ E/\K ex σ F)/\Fr M E0 E
inductive GOk (ops:Array Oper) (σ:Sy) (E:En) (o:Oper):G->Prop
 |go (h:Region.wanted o (yE ops E)=true):GOk ops σ E o .go
 |no (h:Region.wanted o (yE ops E)=false):GOk ops σ E o .no
 |split (i:Nat) (b:SB) (want v:Bool) (hi:σ.T i=some b) (hv:b.v=.bool v) (h:Region.wanted o (yE ops E)=(v==want)):GOk ops σ E o (.split i b want)
 |bad:GOk ops σ E o .bad
theorem I0 {j t:Nat} (hj:(ops[j]?).bind (·.dst)=some t):yE ops E j=(match E t with| .bool b=>some b|_=>none):=by unfold yE;rw [hj];rfl
theorem cN (r:Rel σ E) {t:Nat} {w:VW} {v:Value} (hw:σ.vw t=w) (hv:w.val=some v):E t=v:=Ja (r.val t) (by rw [<- hw] at hv;exact hv)
theorem x9 (r:Rel σ E) (o:Oper):GOk ops σ E o (grd ops σ o):=by
 unfold grd;split
 ·rename_i hg;exact .go (by unfold Region.wanted;rw [hg])
 ·rename_i j want hg;have hwn:∀y,Region.wanted o y=(y j==some want):=λy=>by unfold Region.wanted;rw [hg]
  split
  ·rename_i hn;refine .no ?_;rw [hwn];unfold yE;rw [hn];rfl
  ·rename_i t ht;have hb:∀{b:Bool},E t=.bool b->Region.wanted o (yE ops E)=(b==want):=by intro b hb;rw [hwn,I0 ht,hb];cases b<;>cases want<;>rfl
   split
   ·rename_i b hw;have:=hb (cN r hw rfl);split
    ·rename_i hbw;exact .go (by rw [this];exact hbw)
    ·rename_i hbw;exact .no (by rw [this];exact hbw)
   ·rename_i hw;refine .no ?_;rw [hwn,I0 ht,cN r hw rfl];rfl
   ·rename_i i b hw;exact .split i _ want b (DP hw) rfl (hb (cN r hw rfl))
   ·rename_i i p d hw;exact .split i _ want _ (GJ hw) rfl (hb (cN r hw rfl))
   ·exact .bad
theorem DM {b:SB} {v:Bool} {f:Bool->Prop} (h:spl b f) (hv:b.v=.bool v):f v:=by
 unfold spl at h;split at h
 ·rename_i b;obtain rfl:b=v:=by simpa [SB.v] using hv
  cases b
  ·exact h.2 rfl
  ·exact h.1 rfl
 ·rename_i p d;have: @decide p d=v:=by simpa [SB.v] using hv
  cases v
  ·exact h.2 (of_decide_eq_false this)
  ·exact h.1 (of_decide_eq_true this)
 ·exact h.elim
theorem KC {Q:Exit->En->Ψ} {o:Oper} {l:List Oper} {K:Sy->Ψ} (hw:Region.wanted o (yE ops E)=true) (hd:fi n o.dst=true) (h:sxO P o K σ F) (r:Rel σ E)
  (k:∀σ' E' F',Rel σ' E'->(∀t,o.dst≠some t->E' t=E t)->K σ' F'->HL P n ops Q l E' F'):HL P n ops Q (o::l) E F:=by
 unfold sxO at h;split at h
 ·obtain ⟨σ',nv,ck,v,hy,r',hv,_,h⟩:=DF h r;exact Nu hy (k _ _ _ (r'.putO hv) (λ_ ht=>oC ht) h) hw hd
 ·have:=DL h r;refine IJ hw hd (cV _ _ this ?_);intro nx F' hn;cases nx with
  |value v=>obtain ⟨fl,σ',_,r',fr,h⟩:=hn;exact k _ _ _ r' fr h
  |skip=>obtain ⟨fl,σ',_,r',fr,h⟩:=hn;exact k _ _ _ r' fr h
  |enter f args=>exact hn.mono λv F' ⟨fl,σ',_,r',fr,h⟩=>k _ _ _ r' fr h
  |defer d=>obtain ⟨hi,fl,σ',_,r',fr,h⟩:=hn;exact ⟨hi,k _ _ _ r' fr h⟩
  |_=>exact hn
theorem ya {M:Δ} {E0:En} {K:CK}:∀(l:List Oper) (σ:Sy) (E:En) (F:PH),(∀o∈l,∀t,o.dst=some t->t∈M)->Fr M E0 E->sxL P n ops (K .normal) l σ F->Rel σ E->HL P n ops (QK M E0 K) l E F
 |[],σ,E,F,_,fr,h,r=>Kt ⟨⟨σ,r,h⟩,fr⟩
 |o::l,σ,E,F,hM,fr,h,r=>by
  unfold sxL at h;obtain ⟨hd,h⟩:=d9 h;have step:∀{σ:Sy},Rel σ E->Region.wanted o (yE ops E)=true->sxO P o (sxL P n ops (K .normal) l) σ F->HL P n ops (QK M E0 K) (o::l) E F:=λr hw h=>
   KC hw hd h r λσ' E' F' r' hf h'=>ya l σ' E' F' (λo ho=>hM o (SN _ ho))
    (fr.trans λt ht=>hf t λe=>pX (hM o (TG ..) t e) ht rfl) h' r'
  have skip:∀{σ:Sy},Rel σ E->Region.wanted o (yE ops E)=false->sxL P n ops (K .normal) l (σ.putO o.dst (.sv .und)) F->HL P n ops (QK M E0 K) (o::l) E F:=λr hw h=>
   Gj hw hd (ya l _ _ F (λo ho=>hM o (SN _ ho)) (fr.trans (x8 λt e=>hM o (TG ..) t e)) h (r.putO rfl))
  have g:=x9 (ops:=ops) r o;revert h g;cases grd ops σ o with
  |go=>intro h g;cases g with|go hw=>exact step r hw h
  |no=>intro h g;cases g with|no hw=>exact skip r hw h
  |bad=>intro h g;exact h.elim
  |split i b want=>
   intro h g;cases g with
   |split _ _ _ v hi hv hw=>
    have h:=DM h hv;have r':Rel (σ.rf i (.lit v)) E:=r.rf hi hv;split at h
    ·rename_i hvw;exact step r' (by rw [hw];exact hvw) h
    ·rename_i hvw;exact skip r' (by rw [hw];exact hvw) h
end
end Go.Proofs.YtcemhghkipgdiaaGreatDoor.Rx
namespace Go.Proofs.YtcemhghkipgdiaaGreatDoor.Rx
open Go
inductive PW:Pn->cg->Prop
 |nil:PW [] []
 |cons {i:Nat} {c:Ψ} {S:World->Prop} {pend:Pn} {Sp:cg} (h:∀F,c F->xZ F S) (t:PW pend Sp):PW ((i,c)::pend) ((i,S)::Sp)
theorem PW.rest {o:Oper} {pend:Pn} {Sp:cg} (h:PW pend Sp):PW (pend.filter λp=> !Oper.waits .any o p.1) (cg.rest .any o Sp):=by
 induction h with
 |nil=>exact .nil
 |cons h t ih=>
  rename_i i c S pend Sp;unfold cg.rest at*;simp only [List.filter_cons];cases Oper.waits .any o i
  ·exact .cons h ih
  ·exact ih
theorem GD {F:PH} {pend:Pn} {Sp:cg} (h:PW pend Sp) {K:Prop} (hc:KE F pend K):fM Sp F/\K:=by
 induction h with
 |nil=>exact ⟨Iz,hc⟩
 |cons h t ih=>exact ⟨IA (h _ hc.1) (ih hc.2).1,(ih hc.2).2⟩
theorem GE {F F':PH} {S:World->Prop} (hl:F.le F') (h:xZ F S):xZ F' S:=λe w st=>h e w
 ⟨st.os,st.tape,st.output,λb o hb=>st.heap b o (hl b o hb),λb o hb=>⟨(by
  cases hF:F b with
  |none=>rfl
  |some u=>
   have h1:=(st.frame b o hb).1;rw [hl b u hF] at h1
   cases h1),(st.frame b o hb).2⟩⟩
theorem GF {F F':PH} {Sp:cg} (hl:F.le F') (h:fM Sp F):fM Sp F':=λr hr=>GE hl (h r hr)
theorem BO {F:PH} {o:Oper} {Sp:cg} (h:fM Sp F):fM (cg.rest .any o Sp) F:=λr hr=>h r (Ub.1 hr).1
theorem z6:∀{l:List Prop},KG l->∀p∈l,p
 |[],h=>h.elim
 |[p],h=>by intro q hq;rw [SA] at hq;subst hq;exact h
 |p::q::l,h=>by
  intro u hu;rcases Sw.1 hu with rfl|hu
  ·exact h.1
  ·exact z6 h.2 u hu
theorem wa {ops:Array Oper} {σ:Sy} {i:Nat} {o:Oper} {g:G}:∀{l:Δ},sE ops σ l=some (i,o,g)->ops[i]? =some o/\grd ops σ o=g
 |[],h=>by cases h
 |j::l,h=>by
  unfold sE at h;split at h
  ·cases h
  ·rename_i u hu;split at h
   ·rename_i hg;split at h
    ·cases h;exact ⟨hu,hg⟩
    ·exact wa h
   ·cases h;exact ⟨hu,rfl⟩
theorem wb {ops:Array Oper} {σ:Sy}:∀{l:Δ},sE ops σ l=none->(∀i∈l,ops[i]?≠none)->∀i∈l,∀o,ops[i]? =some o->grd ops σ o=.go
 |[],_,_=>λi hi=>by cases hi
 |j::l,h,hn=>by
  unfold sE at h;split at h
  ·rename_i hj;exact absurd hj (hn j (TG ..))
  ·rename_i u hu;split at h
   ·rename_i hg;split at h
    ·cases h
    ·intro i hi o ho;rcases Sw.1 hi with rfl|hi
     ·rw [hu] at ho;cases ho;exact hg
     ·exact wb h (λi hi=>hn i (SN _ hi)) i hi o ho
   ·cases h
section
variable {P:Program} {n:Nat} {ops:Array Oper} {M:Δ} {E0:En} {K:CK}
theorem yb {o:Oper} {E:En} {F:PH} {A B:En->Ψ} (h:aD P (execOp (ev E) o) F (bG P A o E)) (hab:∀E' F',A E' F'->B E' F'):aD P (execOp (ev E) o) F (bG P B o E):=
 cV _ _ h λnx F' hn=>by
  cases nx with
  |value v=>exact hab _ _ hn
  |skip=>exact hab _ _ hn
  |enter f args=>exact hn.mono λv F' h=>hab _ _ h
  |defer d=>exact ⟨hn.1,hab _ _ hn.2⟩
  |_=>exact hn
def jk (K:CK):Prop:=∀c σ F,¬K (.panic c) σ F
theorem jZ (hK:jk K) (hM:∀o∈ops.toList,∀t,o.dst=some t->t∈M):∀(k fuel:Nat) (listed:Array Bool) (pend:Pn) (Sp:cg) (σ:Sy) (E:En) (F:PH),Fr M E0 E->PW pend Sp->fM Sp F->
  sxD P n ops (K .normal) k fuel listed pend σ F->Rel σ E->RG P n ops (QK M E0 K) fuel listed Sp E F
 |0,fuel,listed,pend,Sp,σ,E,F,fr,pw,hh,h,r=>by unfold sxD at h;exact h.elim
 |k+1,fuel,listed,pend,Sp,σ,E,F,fr,pw,hh,h,r=>by
  have hp:∀c E F,¬QK M E0 K (.panic c) E F:=λc E F ⟨⟨σ,_,h⟩,_⟩=>hK c σ F h;have mem:∀{i:Nat} {o:Oper},ops[i]? =some o->o∈ops.toList:=λh=>by rw [<- TV] at h;exact SE h
  unfold sxD at h;split at h
  ·rename_i hr;exact Gq hr ⟨⟨σ,r,h⟩,fr⟩
  ·rename_i rs hne;split at h
   ·exact h.elim
   ·rename_i fuel;split at h
    ·rename_i i o g hpk;obtain ⟨hi,hg⟩:=wa hpk;obtain ⟨hb,h⟩:=d9 h;simp only [Tj] at hb;obtain ⟨⟨⟨h1,h2⟩,h3⟩,h4⟩:=hb;have gk:=x9 (ops:=ops) r o;rw [hg] at gk;split at h
     ·cases gk with
      |no hw=>exact Gt hi h1 h2 h3 h4 hp hw hh (jZ hK hM k fuel _ pend Sp _ _ F (fr.trans (x8 λt e=>hM o (mem hi) t e)) pw hh h (r.putO rfl))
     ·rename_i j b want;cases gk with
      |split _ _ _ v hj hv hw=>have h:=DM h hv;exact jZ hK hM k (fuel+1) _ pend Sp _ _ F fr pw hh h (r.rf hj hv)
     ·cases gk with
      |go hw=>
       obtain ⟨σ',nv,ck,v,hy,r',hnv,hck,h⟩:=DF h r;have fr':Fr M E0 (cJ E o.dst v):=fr.trans (x8 λt e=>hM o (mem hi) t e);cases ck with
       |none=>exact Nw hi h1 h2 h3 h4 hp hw hck hh (jZ hK hM k fuel _ pend Sp _ _ F fr' pw hh h (r'.putO hnv))
       |some c=>refine Nv hi h1 h2 h3 h4 hp hw hy hh (jZ hK hM k fuel _ ((i,c)::pend) _ _ _ F fr' (.cons (λF hc=>zR (hck.2 F hc)) pw) (IA (zR hy) hh) h (r'.putO hnv))
     ·exact h.elim
    ·rename_i hpk;have hall:=z6 h;have hev:∀i∈Region.ready .any ops listed,∃o,ops[i]? =some o/\_:=λi hi=>by
      have:=hall _ (SL.2 ⟨i,hi,rfl⟩);split at this
      ·exact this.elim
      ·rename_i o ho;exact ⟨o,ho,this⟩
     have hgo:=wb hpk (λi hi e=>by obtain ⟨o,ho,_⟩:=hev i hi;rw [e] at ho;cases ho);refine Ku rfl (by cases hl:Region.ready .any ops listed with|nil=>exact absurd hl hne|cons _ _=>rfl) λi hi=> ?_;obtain ⟨o,ho,hx⟩:=hev i hi;obtain ⟨hd,hx⟩:=d9 hx;have gk:=x9 (ops:=ops) r o;rw [hgo i hi o ho] at gk;cases gk with
     |go hw=>
      refine ⟨o,ho,hd,hw,yb (DL hx r) ?_⟩;rintro E' F' ⟨fl,σ',hl,r',hf,h⟩;have fr':Fr M E0 E':=fr.trans λt ht=>hf t λe=>pX (hM o (mem ho) t e) ht rfl;cases fl with
      |true=>have hh':=GF (hl rfl) (BO (o:=o) hh);exact ⟨hh',jZ hK hM k fuel _ _ _ _ _ F' fr' pw.rest hh' h r'⟩
      |false=>obtain ⟨hh',h⟩:=GD pw.rest h;exact ⟨hh',jZ hK hM k fuel _ _ _ _ _ F' fr' pw.rest hh' h r'⟩
end
end Go.Proofs.YtcemhghkipgdiaaGreatDoor.Rx

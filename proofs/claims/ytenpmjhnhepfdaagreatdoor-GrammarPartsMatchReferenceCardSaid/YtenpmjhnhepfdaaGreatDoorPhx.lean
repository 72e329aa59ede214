/-
  A reader of code. Part 6: regions in any order; code; functions.
-/
import Derived.Test.YtenpmjhnhepfdaaGreatDoorPht
namespace Go.Proofs.YtenpmjhnhepfdaaGreatDoor.Rx
open Go
section
variable {P:Program} {σ:Sy} {E:En} {F:PH} {x y:Operand} {o:Oper}
theorem O4 {α β:Type} {f:α->β} {l:List α} {a b:β} (h:l.map f=[a,b]):∃x y,l=[x,y]/\f x=a/\f y=b:=by
 rcases l with _|⟨x,_|⟨y,_|⟨z,l⟩⟩⟩<;>simp at h
 exact ⟨x,y,rfl,h⟩
theorem O5 {α β:Type} {f:α->β} {l:List α} {a b c:β} (h:l.map f=[a,b,c]):∃x y z,l=[x,y,z]/\f x=a/\f y=b/\f z=c:=by
 rcases l with _|⟨x,_|⟨y,_|⟨z,_|⟨u,l⟩⟩⟩⟩<;>simp at h
 exact ⟨x,y,z,rfl,h⟩
theorem eg {b:Bool} {K:Prop} (h:okN b K):b=true/\K:=by cases b;exact h.elim;exact ⟨rfl,h⟩
theorem tY {d:TypeDesc} (h:kdD d=.agg):jU d=true:=by cases d<;>simp [kdD] at h<;>rfl
theorem nB {d:TypeDesc} (h:kdD d≠.agg):jU d=false:=by cases d<;>first|rfl|exact absurd rfl h
theorem HY {t:TypeId} {a:Addr} {K:NV->(PH->Prop)->Prop} (h:MT P t a F K) (r:Rel σ E) (ho:o.op=.load t x) (hx:ev E x=.pointer (some a)):
  ∃nv v c,c F/\(∀F':PH,c F'->RD P E F' o v)/\(∀T,iO T nv v)/\K nv c:=by
 unfold MT at h
 split at h
 ·exact h.elim
 ·rename_i d hd
  split at h
  ·rename_i hk
   split at h
   ·rename_i n b hz
    obtain ⟨v,rfl,hr,h⟩:=h
    exact ⟨.sv (.c (.agg v)),.agg v,fun F=>F.row a v,hr,fun F' hr=>HD ho hx hd (tY hk) hz hr,fun _=>rfl,h⟩
   ·exact h.elim
  ·rename_i hk
   obtain ⟨v,hc,h⟩:=h
   exact ⟨_,_,_,hc,fun F' hc=>HB ho hx hd (nB hk) hc,fun _=>pH _ v,h⟩
theorem gR {y:Option Operand} {dflt:Nat} {K:Nat->Prop} (h:t4 σ y dflt K) (r:Rel σ E):∃l,dn (y.map (ev E)) dflt l/\K l:=by
 unfold t4 at h
 split at h
 ·exact ⟨dflt,tM,h⟩
 ·rename_i y
  split at h
  ·rename_i k i hw
   split at h
   ·split at h
    ·rename_i hi;exact ⟨_,Jx (ovc r hw) (of_decide_eq_true hi),h⟩
    ·exact h.elim
   ·exact ⟨_,Jx (ovc r hw) h.1,h.2⟩
  ·exact h.elim
theorem pE {place:Nat->Option (Nat×Nat)} {n:Nat} (r:Rel σ E):∀(l:List (Nat×Operand)) (cs:Array Value) {K:Array Value->Prop},cs.size=n->bld σ place n l cs K->
  ∃res,Instr.fill place cs (l.map fun p=>(p.1,ev E p.2))=some res/\K res
 |[],cs,K,_,h=>⟨cs,rfl,h⟩
 | (i,x)::l,cs,K,hn,h=>by
  unfold bld at h
  split at h
  ·exact h.elim
  ·rename_i off s hp
   have one:∀{v:Value},ev E x=v->v.cells= #[v]->Nat.beq s 1=true->Nat.blt off n=true->bld σ place n l (cs.setIfInBounds off v) K->
     ∃res,Instr.fill place cs (((i,x)::l).map fun p=>(p.1,ev E p.2))=some res/\K res:=by
    clear h
    intro v hx hc hs ho h
    obtain rfl:=Nat.eq_of_beq_eq_true hs
    obtain ⟨res,h1,h2⟩:=pE r l _ (by simpa using hn) h
    refine ⟨res,?_,h2⟩
    rw [List.map_cons]
    show Instr.fill place cs ((i,ev E x)::_)=_
    rw [hx]
    exact Jv hp hc (by rw [hn];exact ho) h1
   split at h
   ·rename_i c hw
    split at h
    ·rename_i ho
     obtain ⟨hs,h⟩:=h
     obtain ⟨res,h1,h2⟩:=pE r l _ (by rw [dH];exact hn) h
     refine ⟨res,?_,h2⟩
     rw [List.map_cons]
     show Instr.fill place cs ((i,ev E x)::_)=_
     rw [ovc r hw]
     exact Jw hp hs (by rw [hn];exact ho) h1
    ·exact h.elim
   ·rename_i v hna hw
    split at h
    ·rename_i h1 h2
     exact one (ovc r hw) (by cases v<;>first|rfl|exact absurd rfl (hna _)) h1 h2 h
    ·exact h.elim
   ·exact h.elim
   ·rename_i w hna hnc hnn
    split at h
    ·rename_i v h1 h2 hv
     refine one (aW r rfl hv) ?_ h1 h2 h
     cases hw:σ.ov x<;>rw [hw] at hv<;>simp only [VW.val] at hv<;>first|(cases hv;done)|(cases hv;rfl)|(exact absurd hw (hna _))|(exact absurd hw (hnc _))|exact absurd hw (hnn _)
    ·exact h.elim
variable {K:RK}
theorem x7.of (r:Rel σ E) (h:Cv P E o fun v=>K σ v none):x7 P E F o K:=by
 obtain ⟨nv,v,h1,h2,h3⟩:=h
 exact .pure h1 r h3 (h2 _)
theorem Ek (h:sxR P σ o F K) (r:Rel σ E):x7 P E F o K:=by
 cases ho:o.op<;>simp only [sxR,ho] at h<;>try exact h.elim
 case move x=>exact .pure (fun F=>Mv ho rfl) r h (su r x)
 case assign x=>exact .pure (fun F=>DY ho rfl) r h (su r x)
 case pick c a b=>
  split at h
  ·rename_i hc;exact .pure (fun F=>tR ho (aW r hc rfl) (fun _=>rfl) (fun h=>by cases h)) r h (su r a)
  ·rename_i hc;exact .pure (fun F=>tR ho (aW r hc rfl) (fun h=>by cases h) (fun _=>rfl)) r h (su r b)
  ·exact h.elim
 case nilCheck x=>
  split at h
  ·rename_i hw
   refine .pure (fun F=>vZ ho (ovc r hw)) r h ?_
   show okV _ _ _
   rw [<- ovc r hw];exact su r x
  ·obtain ⟨σ',a,r',hx,h⟩:=jX h r
   exact .pure (fun F=>xH ho hx) r' h rfl
 case extract x i=>
  split at h
  ·rename_i vs hw
   split at h
   ·rename_i v hv
    exact .pure (fun F=>rW ho (ovc r hw) hv) r h (Ey _ v)
   ·exact h.elim
  ·rename_i w hw
   obtain ⟨v,hv,h⟩:=h
   exact .pure (fun F=>rW ho (aW r hw rfl) hv) r h (pH _ v)
  ·exact h.elim
 case fieldAddr t x i=>
  split at h
  ·rename_i fs ht
   split at h
   ·rename_i f hf
    split at h
    ·rename_i s b hz
     obtain ⟨σ',a,r',hx,h⟩:=jX h r
     exact .pure (fun F=>wc ho hx ht hf hz (by omega)) r' h rfl
    ·exact h.elim
   ·exact h.elim
  ·exact h.elim
 case load t x=>
  obtain ⟨σ',a,r',hx,h⟩:=jX h r
  obtain ⟨nv,v,c,h1,h2,h3,h⟩:=HY h r' ho hx
  exact .chk h1 h2 r' h (h3 _)
 case indexAddr t x y=>
  split at h
  ·rename_i k i e hy ht
   split at h
   ·rename_i base len cap s b hx hz
    obtain ⟨a,rfl,h1,h2,h⟩:=h
    exact .pure (fun F=>rH ho (ovc r hx) (ovc r hy) ht hz h1 (by exact_mod_cast h2)) r h rfl
   ·exact h.elim
  ·rename_i k i n e hy ht
   split at h
   ·rename_i s b hz
    obtain ⟨σ',a,r',hx,h1,h2,h⟩:=jX h r
    exact .pure (fun F=>rI ho hx (ovc r hy) ht hz h1 (by exact_mod_cast h2)) r' h rfl
   ·exact h.elim
  ·exact h.elim
 case index t x y=>
  split at h
  ·rename_i s k i hx hy ht
   obtain ⟨h1,h2,h3,v,rfl,h⟩:=h
   exact .pure (fun F=>xL ho (ovc r hx) (ovc r hy) ht h1 (by exact_mod_cast h2)) r h rfl
  ·rename_i cs k i n e hx hy ht
   split at h
   ·rename_i d s b hd hz
    split at h
    ·exact h.elim
    ·rename_i hk
     obtain ⟨h1,h2,v,hv,h⟩:=h
     exact .pure (fun F=>we ho (ovc r hx) (ovc r hy) ht hz hd (nB hk) h1 (by exact_mod_cast h2) hv) r h (pH _ v)
   ·exact h.elim
  ·exact h.elim
 case field t x i=>
  split at h
  ·rename_i cs fs hx ht
   split at h
   ·rename_i f hf
    split at h
    ·rename_i d s b hd hz
     split at h
     ·rename_i hk
      exact .pure (fun F=>D3 ho (ovc r hx) ht hf hd (tY hk) hz) r h rfl
     ·rename_i hk
      obtain ⟨v,hv,h⟩:=h
      exact .pure (fun F=>D2 ho (ovc r hx) ht hf hd (nB hk) hv) r h (pH _ v)
    ·exact h.elim
   ·exact h.elim
  ·exact h.elim
 case binOp op t x y t'=>exact .of r (Ez h r ho)
 case unOp op t x=>
  split at h
  ·rename_i b hx;exact .pure (fun F=>D0 ho (aW r hx rfl)) r h rfl
  ·rename_i i b hx;exact .pure (fun F=>D0 ho (aW r hx rfl)) r h rfl
  ·rename_i i p d hx
   refine .pure (v:=.bool (@decide (¬p) (@instDecidableNot p d))) (fun F=> ?_) r h rfl
   have:=D0 (P:=P) (F:=F) ho (aW r hx rfl)
   rw [show (!@decide p d)= @decide (¬p) (@instDecidableNot p d) by cases d<;>rfl] at this
   exact this
  ·rename_i k a hx;exact .pure (fun F=>OE ho (ovc r hx)) r h rfl
  ·exact h.elim
 case convert t t' x=>
  split at h
  ·rename_i k a d k' hx ht ht';exact .pure (fun F=>Co ho (ovc r hx) ht ht') r h rfl
  ·rename_i b l c e hx ht ht'
   split at h
   ·rename_i he
    obtain ⟨s,hs,h⟩:=h
    exact .chk hs (fun F' hs=>DK ho (ovc r hx) ht ht' he ⟨_,_,_,rfl⟩ hs) r h rfl
   ·exact h.elim
  ·exact h.elim
 case slice t x lo hi mx=>
  split at h
  ·rename_i e ht
   split at h
   ·rename_i b len cap sz z hx hz
    obtain ⟨l,hl,h⟩:=gR h r
    obtain ⟨u,hu,h1,h2,h⟩:=gR h r
    exact .pure (fun F=>Cq (s:=⟨b,len,cap⟩) ho (ovc r hx) ht hz hl hu h1 h2) r h rfl
   ·exact h.elim
  ·rename_i ht
   split at h
   ·rename_i s hx
    obtain ⟨l,hl,h⟩:=gR h r
    obtain ⟨u,hu,h1,h2,h⟩:=gR h r
    exact .pure (fun F=>xN ho (ovc r hx) ht hl hu h1 h2) r h rfl
   ·exact h.elim
  ·rename_i n e ht
   split at h
   ·rename_i sz z hz
    obtain ⟨σ',a,r',hx,h⟩:=jX h r
    exact .pure (fun F=>r8 ho hx ht hz tM tM (Nat.zero_le _) (Nat.le_refl _)) r' h rfl
   ·rename_i sz z hz hnn
    obtain ⟨σ',a,r',hx,h⟩:=jX h r
    obtain ⟨l,hl,h⟩:=gR h r'
    obtain ⟨u,hu,h1,h2,h⟩:=gR h r'
    exact .pure (fun F=>r8 ho hx ht hz hl hu h1 h2) r' h rfl
   ·exact h.elim
  ·rename_i e m ht
   split at h
   ·rename_i b len cap sz z k i k' m' hx hz hhi hm
    obtain ⟨l,hl,h0,hm0,h1,h2,h3,h⟩:=gR h r
    cases hi with
    |none=>simp at hhi
    |some hi=>
     simp only [Option.map_some,Option.some.injEq] at hhi
     exact .pure (fun F=>xM (s:=⟨b,len,cap⟩) ho (ovc r hx) ht hz hl (ovc r hhi) (ovc r hm) h0 hm0 h1 h2 h3) r h rfl
   ·exact h.elim
  ·exact h.elim
 case build t parts=>
  split at h
  ·rename_i fs z ht hz
   obtain ⟨hk,h⟩:=eg h
   obtain ⟨res,h1,h⟩:=pE r _ _ rfl h
   exact .pure (fun F=>rJ ho ht hz hk (by simp) h1) r h rfl
  ·rename_i n e z ht hz
   split at h
   ·rename_i s b hs
    obtain ⟨res,h1,h⟩:=pE r _ _ rfl h
    exact .pure (fun F=>tS ho ht hz hs (by simp) h1) r h rfl
   ·exact h.elim
  ·exact h.elim
 case makeFunc fn first cap=>
  cases fn<;>simp only at h<;>try exact h.elim
  obtain ⟨us,h1,h⟩:=ky r _ h
  obtain ⟨vs,h2,h⟩:=ky r _ h
  have h1':first.map (ev E)=us.toArray:=by rw [<- h1,<- Array.toList_map,Array.toArray_toList]
  have h2':cap.map (ev E)=vs.toArray:=by rw [<- h2,<- Array.toList_map,Array.toArray_toList]
  exact .pure (fun F=>xI ho h1' h2') r h rfl
 case lookup t x y ok=>
  split at h
  ·rename_i u v kt e hu hv ht
   split at h
   ·obtain ⟨q,b,h1,h⟩:=h
    exact .chk h1 (fun F' h1=>wi ho (aW r rfl hu) (aW r rfl hv) h1) r h rfl
   ·obtain ⟨q,h1,h⟩:=h
    exact .chk h1 (fun F' h1=>wi ho (aW r rfl hu) (aW r rfl hv) h1) r h (pH _ q)
  ·exact h.elim
 case entry x=>
  split at h
  ·rename_i u hu
   obtain ⟨k,v,h1,h⟩:=h
   exact .chk h1 (fun F' h1=>Ht ho (aW r rfl hu) h1) r h rfl
  ·exact h.elim
 case call c=>
  obtain ⟨cal,args,ts⟩:=c
  obtain ⟨args⟩:=args
  obtain ⟨ts⟩:=ts
  cases cal<;>simp only at h<;>try exact h.elim
  rename_i b
  split at h
  ·rename_i bs l cp t heq
   obtain ⟨x,rfl,hx⟩:=List.map_eq_singleton_iff.1 heq
   split at h
   ·rename_i ht;exact .pure (fun F=>Hy (s:=⟨bs,l,cp⟩) ho (ovc r hx) ht) r h rfl
   ·exact h.elim
  ·rename_i s t heq
   obtain ⟨x,rfl,hx⟩:=List.map_eq_singleton_iff.1 heq
   split at h
   ·rename_i ht;exact .pure (fun F=>D1 ho (ovc r hx) ht) r h rfl
   ·exact h.elim
  ·rename_i m t heq
   obtain ⟨x,rfl,hx⟩:=List.map_eq_singleton_iff.1 heq
   obtain ⟨v,h1,h⟩:=h
   exact .chk h1 (fun F' h1=>DL ho (ovc r hx) h1) r h rfl
  ·rename_i bs l cp t heq
   obtain ⟨x,rfl,hx⟩:=List.map_eq_singleton_iff.1 heq
   split at h
   ·rename_i ht;exact .pure (fun F=>Hz (s:=⟨bs,l,cp⟩) ho (ovc r hx) ht) r h rfl
   ·exact h.elim
  ·rename_i k a k' b' heq
   obtain ⟨x,y,rfl,hx,hy⟩:=O4 heq
   obtain ⟨hk,h'⟩:=eg h
   obtain rfl:=of_decide_eq_true hk
   exact .pure (fun F=>MA ho (ovc r hx) (ovc r hy)) r h' rfl
  ·rename_i k a k' b' heq
   obtain ⟨x,y,rfl,hx,hy⟩:=O4 heq
   obtain ⟨hk,h'⟩:=eg h
   obtain rfl:=of_decide_eq_true hk
   exact .pure (fun F=>MB ho (ovc r hx) (ovc r hy)) r h' rfl
  ·rename_i k a k' b' k'' c' heq
   obtain ⟨x,y,z,rfl,hx,hy,hz⟩:=O5 heq
   obtain ⟨hk,h'⟩:=eg h
   obtain ⟨rfl,rfl⟩:=of_decide_eq_true hk
   exact .pure (fun F=>MC ho (ovc r hx) (ovc r hy) (ovc r hz)) r h' rfl
  ·rename_i k a k' b' k'' c' heq
   obtain ⟨x,y,z,rfl,hx,hy,hz⟩:=O5 heq
   obtain ⟨hk,h'⟩:=eg h
   obtain ⟨rfl,rfl⟩:=of_decide_eq_true hk
   exact .pure (fun F=>MD ho (ovc r hx) (ovc r hy) (ovc r hz)) r h' rfl
  ·exact h.elim
end
end Go.Proofs.YtenpmjhnhepfdaaGreatDoor.Rx
namespace Go.Proofs.YtenpmjhnhepfdaaGreatDoor.Rx
open Go
theorem le_refl' (F:PH):F.le F:=fun _ _ h=>h
theorem MP {F:PH} {b:Nat} {o:Obj} (hb:F b=none):F.le (F.set b o):=fun x u hx=>by
 have:x≠b:=fun e=>by rw [e,hb] at hx;cases hx
 rw [xP _ _ this];exact hx
section
variable {P:Program} {σ:Sy} {E:En} {F:PH} {x y z:Operand} {o:Oper}
def KK (F:PH) (E:En) (o:Oper) (K:EK) (E':En) (F':PH):Prop:=∃fl σ',(fl=true->F.le F')/\Rel σ' E'/\(∀t,o.dst≠some t->E' t=E t)/\K fl σ' F'
def MQ (P:Program) (E:En) (F:PH) (o:Oper) (K:EK):Prop:=aE P (execOp (ev E) o) F (bB P (KK F E o K) o E)
theorem nC {d:Option Tmp} {v:Value} {t:Nat} (h:d≠some t):cO E d v t=E t:=by
 cases d with
 |none=>rfl
 |some d=>simp only [cO,upd,jV (fun e:t=d=>h (by rw [e]))];rfl
variable {K:EK}
theorem KK.mk {nv:NV} {v:Value} {F':PH} {fl:Bool} (r:Rel σ E) (h:K fl (σ.putO o.dst nv) F') (hv:iO σ.T nv v) (hl:fl=true->F.le F'):KK F E o K (cO E o.dst v) F':=
 ⟨fl,_,hl,r.putO hv,fun _ ht=>nC ht,h⟩
theorem KK.f {nv:NV} {v:Value} {F':PH} (r:Rel σ E) (h:K false (σ.putO o.dst nv) F') (hv:iO σ.T nv v):KK F E o K (cO E o.dst v) F':=KK.mk r h hv (fun h=>by cases h)
theorem gS {ob:Obj} {s:Nat->SV} {v:Nat->Value} (h:sxN σ o.dst ob s F K) (r:Rel σ E) (hv:∀b,okV σ.T (s b) (v b)):∀b,F b=none->KK F E o K (cO E o.dst (v b)) (F.set b ob):=
 fun b hb=>KK.mk r (atE (h b hb)) (hv b) (fun _=>MP hb)
theorem HZ {d:Option Tmp} {t:TypeId} {v:Value} {K:Sy->Prop} (h:wq P σ d t v K) (r:Rel σ E):∃σ',Rel σ' (cO E d v)/\K σ':=by
 unfold wq at h
 split at h
 ·exact ⟨σ,r,h⟩
 ·rename_i d
  split at h
  ·split at h
   ·obtain ⟨rfl,h⟩:=h;exact ⟨_,r.put (show iO σ.T (.sv (.c (.tuple _))) _ from rfl),h⟩
   ·obtain ⟨a,rfl,h⟩:=h;exact ⟨_,r.put (show iO σ.T (.sv (.c (.tuple _))) _ from rfl),h⟩
   ·obtain ⟨a,b,rfl,h⟩:=h;exact ⟨_,r.put (show iO σ.T (.sv (.c (.tuple _))) _ from rfl),h⟩
   ·obtain ⟨a,b,c,rfl,h⟩:=h;exact ⟨_,r.put (show iO σ.T (.sv (.c (.tuple _))) _ from rfl),h⟩
   ·obtain ⟨a,b,c,e,rfl,h⟩:=h;exact ⟨_,r.put (show iO σ.T (.sv (.c (.tuple _))) _ from rfl),h⟩
   ·exact h.elim
  ·obtain ⟨a,rfl,h⟩:=h;exact ⟨_,r.put (pH _ a),h⟩
theorem xW {t:TypeId} {v:Value} {F':PH} (h:wq P σ o.dst t v fun σ=>K false σ F') (r:Rel σ E):KK F E o K (cO E o.dst v) F':=by
 obtain ⟨σ',r',h⟩:=HZ h r
 exact ⟨false,σ',(fun h=>by cases h),r',fun _ ht=>nC ht,h⟩
theorem nD {w:VW} {v:Value} (hv:w.val=some v) (h1:∀c,w≠.c (.agg c)) (h2:∀u,w≠.any u):v.cells= #[v]:=by
 cases w<;>simp only [VW.val] at hv<;>first|(cases hv;done)|(cases hv;rfl)|exact absurd rfl (h2 _)|skip
 rename_i u
 cases hv
 cases v<;>first|rfl|exact absurd rfl (h1 _)
theorem El {w:VW} {v:Value} (hv:w.val=some v) (h1:∀c,w≠.c (.agg c)) (h2:∀u,w≠.any u) (h3:∀u,w≠.c (.tuple u)) (h4:∀u,w≠.vt u) (h5:w≠.und):ai v:=by
 cases w<;>simp only [VW.val] at hv<;>first|(cases hv;done)|exact absurd rfl (h2 _)|exact absurd rfl (h4 _)|exact absurd rfl h5|skip
 all_goals cases hv
 case c.refl=>exact ⟨fun c e=>h1 c (by rw [e]),fun c e=>h3 c (by rw [e])⟩
 all_goals exact ⟨(fun _ h=>by cases h),(fun _ h=>by cases h)⟩
theorem zY (r:Rel σ E):∀(l:List (Nat×Operand)) (k:Nat) {us:List Value},Id σ k l=some us->(l.map fun p=>(p.1,ev E p.2))=zK k us/\Hu us/\us.length=l.length
 |[],k,us,h=>by cases h;exact ⟨rfl,trivial,rfl⟩
 | (i,x)::l,k,us,h=>by
  unfold Id at h
  split at h
  ·cases h
  ·cases h
  ·rename_i hi h1 h2
   split at h
   ·rename_i v vs hv hs
    cases h
    obtain ⟨e1,e2,e3⟩:=zY r l _ hs
    obtain rfl:=Nat.eq_of_beq_eq_true hi
    refine ⟨?_,⟨nD hv (fun c e=>h1 c e) (fun u e=>h2 u e),e2⟩,by simp [e3]⟩
    rw [List.map_cons,e1]
    show (i,ev E x)::_=(i,v)::_
    rw [aW r rfl hv]
   ·cases h
  ·cases h
theorem Em {t:TypeId} {s:ByteArray} {K:En->PH->Prop} (ho:o.op=.range t x) (hx:ev E x=.string s) (h1:P.underlying t=some .string) (h:∀b,F b=none->K (cO E o.dst (.pointer (some ⟨b,0,none⟩))) (F.set b (.stringIter s 0))):
  aE P (execOp (ev E) o) F (bB P K o E):=by
 simp only [execOp,ho,hx,Instr.range,aA,bN h1,aM,newObj,aE,bB]
 exact h
theorem Eo {t:TypeId} {v:Value} {K:En->PH->Prop} (ho:o.op=.range t x) (hx:ev E x=v) (h:aE P (Instr.range t v) F fun r F'=>K (cO E o.dst r) F'):aE P (execOp (ev E) o) F (bB P K o E):=by
 simp only [execOp,ho,hx,aA,aM,bB]
 exact h
theorem MR {v:Value} {is:Bool} {K:En->PH->Prop} (ho:o.op=.next x is) (hx:ev E x=v) (h:aE P (Instr.next v is o.type) F fun r F'=>K (cO E o.dst r) F'):aE P (execOp (ev E) o) F (bB P K o E):=by
 simp only [execOp,ho,hx,aA,aM,bB]
 exact h
theorem Ep {t:TypeId} {u v q:Value} {K:En->PH->Prop} (ho:o.op=.insert t x y z) (hx:ev E x=u) (hy:ev E y=v) (hz:ev E z=q)
  (h:aE P (Instr.mapUpdate t u v q) F fun _ F'=>K (cO E o.dst undef) F'):aE P (execOp (ev E) o) F (bB P K o E):=by
 subst hx hy hz
 have:execOp (ev E) o=execOp (ev E) {o with op:=.mapUpdate t x y z}:=by simp only [execOp,ho]
 rw [this]
 exact mH (o:={o with op:=.mapUpdate t x y z}) rfl rfl rfl rfl h
theorem Er {ts:Array TypeId} {u v:Value} {K:En->PH->Prop} (ho:o.op=.call ⟨.builtin .delete,#[x,y],ts⟩) (hx:ev E x=u) (hy:ev E y=v) (h:aE P (Builtin.delete_ ts o.type #[u,v]) F fun r F'=>K (cO E o.dst r) F'):
  aE P (execOp (ev E) o) F (bB P K o E):=by
 simp [execOp,ho,resolve,hx,hy,aA,invoke,builtin,bB]
 exact h
theorem Es (h:sxE P σ o F K) (r:Rel σ E):MQ P E F o K:=by
 cases ho:o.op<;>simp only [sxE,ho] at h<;>try exact h.elim
 case alloc t=>
  split at h
  ·rename_i z hz;exact HE ho hz (gS h r (fun _=>rfl))
  ·exact h.elim
 case box t x=>
  split at h
  ·rename_i c hw;exact D4 ho (ovc r hw) (gS h r (fun _=>rfl))
  ·rename_i v hw
   obtain ⟨hc,h⟩:=h
   rw [<- hc] at h
   exact D4 ho (aW r hw rfl) (gS h r (fun _=>rfl))
  ·rename_i h1 h2
   split at h
   ·rename_i v hv
    have hc:v.cells= #[v]:=nD hv (fun c e=>h1 c e) (fun u e=>h2 u e)
    rw [<- hc] at h
    exact D4 ho (aW r rfl hv) (gS h r (fun _=>rfl))
   ·exact h.elim
 case buildSlice t m parts=>
  split at h
  ·rename_i e ht
   split at h
   ·rename_i s b z hz hzz
    split at h
    ·rename_i hm hs h0
     have hm':m*s<=16777216:=Nat.le_of_ble_eq_true hm
     have hs':z.cells.size=s:=Nat.eq_of_beq_eq_true hs
     split at h
     ·rename_i l h1 h2 hl
      obtain rfl:=Nat.eq_of_beq_eq_true h1
      obtain ⟨e1,e2,e3⟩:=zY r _ _ hl
      exact gP ho ht hz hm' hzz (by simpa using e1) (Hv (by rw [e3];exact Nat.eq_of_beq_eq_true h2) rfl hs' e2) (by rw [hs']) (gS h r (fun _=>rfl))
     ·split at h
      ·rename_i c heq hn
       obtain ⟨hcs,h⟩:=h
       obtain ⟨p,hp,hpe⟩:=List.map_eq_singleton_iff.1 heq
       obtain ⟨i,x⟩:=p
       simp only [Prod.mk.injEq] at hpe
       obtain ⟨rfl,hx⟩:=hpe
       exact gP (vs:=[(0,.agg c)]) ho ht hz hm' hzz (by simp [hp,ovc r hx]) (Ch hcs hs' h0) (by rw [hs']) (gS h r (fun _=>rfl))
      ·obtain ⟨res,e1,h⟩:=pE r _ _ (by rw [<- nr _ (by rw [hs'];exact h0)];simp [Builtin.zeroCells,hs']) h
       refine gP (vs:=parts.toList.map fun p=>(p.1,ev E p.2)) ho ht hz hm' hzz (by simp) (cells:=res) ?_ (by rw [hs']) (gS h r (fun _=>rfl))
       rw [nr _ (by rw [hs'];exact h0)]
       exact e1
    ·exact h.elim
   ·exact h.elim
  ·exact h.elim
 case store t x y=>
  obtain ⟨σ',a,r',hx,h⟩:=jX h r
  have st:∀{v:Value} {b:Nat},ev E y=v->tsz P t=some (1,b)->v.cells= #[v]->ai v->sto F a v (fun F=>K false (σ'.putO o.dst (.sv .und)) F)->MQ P E F o K:=by
   intro v b hy hz hc hst ⟨c,e,h1,h2,h3,h4⟩
   exact D5 ho hx hy hz hc rfl hst h2 h1 h3 (KK.f r' (atE h4) rfl)
  split at h
  ·rename_i v n b hy hz
   obtain ⟨h1,h2,c,e,h3,h4,h5,h6⟩:=h
   refine D6 ho hx (ovc r' hy) hz h1 h2 (fun h0=> ?_) h4 h3 h5 (KK.f r' (atE h6) rfl)
   have:v.toList.length=0:=by rw [h0];rfl
   simp at this
   simp [this] at h1
  ·exact h.elim
  ·rename_i v b hna hnt hy hz
   exact st (ovc r' hy) hz (nD (w:=.c v) rfl (fun c e=>hna c (by cases e;rfl)) (fun u e=>by cases e)) (El (w:=.c v) rfl (fun c e=>hna c (by cases e;rfl)) (fun u e=>by cases e) (fun c e=>hnt c (by cases e;rfl)) (fun u e=>by cases e) (fun e=>by cases e)) h
  ·rename_i v b hy hz
   exact st (aW r' hy rfl) hz h.2.1 h.1 h.2.2
  ·exact h.elim
  ·exact h.elim
  ·rename_i b hz h2 h3 h4 h5 h6 h7
   split at h
   ·rename_i v hv
    exact st (aW r' rfl hv) hz (nD hv (fun c e=>h2 c e) (fun u e=>h5 u e)) (El hv (fun c e=>h2 c e) (fun u e=>h5 u e) (fun c e=>h3 c e) (fun u e=>h6 u e) (fun e=>h7 e)) h
   ·exact h.elim
  ·exact h.elim
 case range t x=>
  split at h
  ·rename_i s ht hx;exact Em ho (ovc r hx) ht (gS h r (fun _=>rfl))
  ·split at h
   ·rename_i v hv
    exact Eo ho (aW r rfl hv) (cW _ _ h fun u F' ⟨b,hb,h⟩=>by subst hb;exact KK.f r h rfl)
   ·exact h.elim
  ·exact h.elim
 case next x is=>
  split at h
  ·rename_i v hv
   exact MR ho (aW r rfl hv) (cW _ _ h fun u F' ⟨b,hb,h⟩=>by subst hb;exact KK.f r h rfl)
  ·exact h.elim
 case makeSlice t x y=>
  split at h
  ·rename_i u v hu hv
   exact wh ho (aW r rfl hu) (aW r rfl hv) (cW _ _ h fun u F' ⟨b,hb,h⟩=>by subst hb;exact KK.f r h rfl)
  ·exact h.elim
 case makeMap t q=>
  cases q<;>simp only at h<;>try exact h.elim
  exact xQ ho (gS h r (fun _=>rfl))
 case mapUpdate t x y z=>
  split at h
  ·rename_i u v w hu hv hw
   exact mH ho (aW r rfl hu) (aW r rfl hv) (aW r rfl hw) (cW _ _ h fun u F' h=>KK.f r h rfl)
  ·exact h.elim
 case insert t x y z=>
  split at h
  ·rename_i u v w hu hv hw
   exact Ep ho (aW r rfl hu) (aW r rfl hv) (aW r rfl hw) (cW _ _ h fun u F' h=>KK.f r h rfl)
  ·exact h.elim
 case call c=>
  obtain ⟨cal,args,ts⟩:=c
  obtain ⟨args⟩:=args
  cases cal with
  |invoke=>exact h.elim
  |builtin b=>
   simp only at h
   split at h
   ·split at h
    ·rename_i x y u v hu hv
     exact D7 ho (aW r rfl hu) (aW r rfl hv) (cW _ _ h fun u F' ⟨b,hb,h⟩=>by subst hb;exact KK.f r h rfl)
    ·exact h.elim
   ·split at h
    ·rename_i x y u v hu hv
     exact MF ho (aW r rfl hu) (aW r rfl hv) (cW _ _ h fun u F' ⟨b,hb,h⟩=>by subst hb;exact KK.f r h rfl)
    ·exact h.elim
   ·split at h
    ·rename_i x y u v hu hv
     exact Er ho (aW r rfl hu) (aW r rfl hv) (cW _ _ h fun u F' h=>KK.f r h True.intro)
    ·exact h.elim
   ·exact h.elim
  |value g=>
   have cF:∀(h:wo σ args fun vs=>(match σ.ov g with
     | .c (.func (.func f) a b)=>okN (aC P f) (ae P f (a++vs.toArray++b) F fun v F=>wq P σ o.dst o.type v fun σ=>K false σ F)
     | .any u=>∃(k:Nat) (a b:Array Value),u=.func (.func k) a b/\aC P k=true/\ae P k (a++vs.toArray++b) F fun v F=>wq P σ o.dst o.type v fun σ=>K false σ F
     |_=>False)),MQ P E F o K:=by
    intro h
    obtain ⟨us,h1,h⟩:=ky r _ h
    split at h
    ·rename_i f a b hg
     obtain ⟨hc,h⟩:=eg h
     exact zQ ho (ovc r hg) hc (by rw [<- h1];simp) (h.mono fun v F' h=>xW h r)
    ·rename_i u hg
     obtain ⟨f,a,b,rfl,hc,h⟩:=h
     exact zQ ho (aW r hg rfl) hc (by rw [<- h1];simp) (h.mono fun v F' h=>xW h r)
    ·exact h.elim
   cases g with
   |func f=>
    obtain ⟨us,h1,h⟩:=ky r _ h
    obtain ⟨hc,h⟩:=eg h
    exact ME ho hc (by rw [<- h1];simp) (h.mono fun v F' h=>xW h r)
   |_=>exact cF h
end
end Go.Proofs.YtenpmjhnhepfdaaGreatDoor.Rx
namespace Go.Proofs.YtenpmjhnhepfdaaGreatDoor.Rx
open Go
section
variable {P:Program} {σ:Sy} {E:En} {F:PH} {n:Nat} {ops:Array Oper}
def Fr (M:List Nat) (E E':En):Prop:=∀t,mU M t=false->E' t=E t
theorem wj {a b:List Nat} {t:Nat}:mU (a++b) t=false↔mU a t=false/\mU b t=false:=by
 induction a with
 |nil=>simp [mU]
 |cons x a ih=>
  simp only [List.cons_append,mU]
  cases Nat.beq t x<;>simp [ih]
theorem Fr.refl {M:List Nat} {E:En}:Fr M E E:=fun _ _=>rfl
theorem Fr.trans {M:List Nat} {E E' E'':En} (h:Fr M E E') (h':Fr M E' E''):Fr M E E'':=fun t ht=>(h' t ht).trans (h t ht)
theorem Fr.left {a b:List Nat} {E E':En} (h:Fr a E E'):Fr (a++b) E E':=fun t ht=>h t (wj.1 ht).1
theorem Fr.right {a b:List Nat} {E E':En} (h:Fr b E E'):Fr (a++b) E E':=fun t ht=>h t (wj.1 ht).2
theorem pF {M:List Nat} {d:Nat} (h:d∈M) {t:Nat} (ht:mU M t=false):t≠d:=by
 induction M with
 |nil=>cases h
 |cons x M ih=>
  simp only [mU] at ht
  intro e
  subst e
  rcases List.mem_cons.1 h with rfl|h
  ·have:Nat.beq t t=true:=by simp
   rw [this] at ht;cases ht
  ·cases hb:Nat.beq t x<;>rw [hb] at ht
   ·exact ih h ht rfl
   ·cases ht
theorem xX {M:List Nat} {d:Option Tmp} {v:Value} (h:∀t,d=some t->t∈M):Fr M E (cO E d v):=fun t ht=>nC fun e=>pF (h t e) ht rfl
theorem wl {l:List Oper} {o:Oper} {d:Nat} (ho:o∈l) (hd:o.dst=some d):d∈Ew l:=by
 induction l with
 |nil=>cases ho
 |cons x l ih=>
  unfold Ew
  rcases List.mem_cons.1 ho with rfl|ho
  ·rw [hd];exact List.mem_cons_self ..
  ·split
   ·exact List.mem_cons_of_mem _ (ih ho)
   ·exact ih ho
def QK (M:List Nat) (E0:En) (K:CK):Exit->En->PH->Prop:=fun ex E F=>(∃σ,Rel σ E/\K ex σ F)/\Fr M E0 E
inductive GOk (ops:Array Oper) (σ:Sy) (E:En) (o:Oper):G->Prop
 |go (h:Region.wanted o (yE ops E)=true):GOk ops σ E o .go
 |no (h:Region.wanted o (yE ops E)=false):GOk ops σ E o .no
 |split (i:Nat) (b:SB) (want v:Bool) (hi:σ.T i=some b) (hv:b.v=.bool v) (h:Region.wanted o (yE ops E)=(v==want)):GOk ops σ E o (.split i b want)
 |bad:GOk ops σ E o .bad
theorem JU {j t:Nat} (hj:(ops[j]?).bind (·.dst)=some t):yE ops E j=(match E t with| .bool b=>some b|_=>none):=by
 unfold yE;rw [hj];rfl
theorem cP (r:Rel σ E) {t:Nat} {w:VW} {v:Value} (hw:σ.vw t=w) (hv:w.val=some v):E t=v:=JV (r.val t) (by rw [<- hw] at hv;exact hv)
theorem xY (r:Rel σ E) (o:Oper):GOk ops σ E o (grd ops σ o):=by
 unfold grd
 split
 ·rename_i hg;exact .go (by unfold Region.wanted;rw [hg])
 ·rename_i j want hg
  have hwn:∀y,Region.wanted o y=(y j==some want):=fun y=>by unfold Region.wanted;rw [hg]
  split
  ·rename_i hn
   refine .no ?_
   rw [hwn];unfold yE;rw [hn];rfl
  ·rename_i t ht
   have hb:∀{b:Bool},E t=.bool b->Region.wanted o (yE ops E)=(b==want):=by
    intro b hb
    rw [hwn,JU ht,hb];cases b<;>cases want<;>rfl
   split
   ·rename_i b hw
    have:=hb (cP r hw rfl)
    split
    ·rename_i hbw;exact .go (by rw [this];exact hbw)
    ·rename_i hbw;exact .no (by rw [this];exact hbw)
   ·rename_i hw
    refine .no ?_
    rw [hwn,JU ht,cP r hw rfl];rfl
   ·rename_i i b hw;exact .split i _ want b (Ex hw) rfl (hb (cP r hw rfl))
   ·rename_i i p d hw;exact .split i _ want _ (If hw) rfl (hb (cP r hw rfl))
   ·exact .bad
theorem Et {b:SB} {v:Bool} {f:Bool->Prop} (h:spl b f) (hv:b.v=.bool v):f v:=by
 unfold spl at h
 split at h
 ·rename_i b
  obtain rfl:b=v:=by simpa [SB.v] using hv
  cases b
  ·exact h.2 rfl
  ·exact h.1 rfl
 ·rename_i p d
  have: @decide p d=v:=by simpa [SB.v] using hv
  cases v
  ·exact h.2 (of_decide_eq_false this)
  ·exact h.1 (of_decide_eq_true this)
 ·exact h.elim
theorem MS {Q:Exit->En->PH->Prop} {o:Oper} {l:List Oper} {K:Sy->PH->Prop} (hw:Region.wanted o (yE ops E)=true) (hd:fk n o.dst=true) (h:sxO P o K σ F) (r:Rel σ E)
  (k:∀σ' E' F',Rel σ' E'->(∀t,o.dst≠some t->E' t=E t)->K σ' F'->HL P n ops Q l E' F'):HL P n ops Q (o::l) E F:=by
 unfold sxO at h
 split at h
 ·obtain ⟨σ',nv,ck,v,hy,r',hv,_,h⟩:=Ek h r
  exact OG hy (k _ _ _ (r'.putO hv) (fun _ ht=>nC ht) h) hw hd
 ·have:=Es h r
  refine JI hw hd (cW _ _ this ?_)
  intro nx F' hn
  cases nx with
  |value v=>obtain ⟨fl,σ',_,r',fr,h⟩:=hn;exact k _ _ _ r' fr h
  |skip=>obtain ⟨fl,σ',_,r',fr,h⟩:=hn;exact k _ _ _ r' fr h
  |enter f args=>exact hn.mono fun v F' ⟨fl,σ',_,r',fr,h⟩=>k _ _ _ r' fr h
  |_=>exact hn
theorem xZ {M:List Nat} {E0:En} {K:CK}:∀(l:List Oper) (σ:Sy) (E:En) (F:PH),(∀o∈l,∀t,o.dst=some t->t∈M)->Fr M E0 E->sxL P n ops (K .normal) l σ F->Rel σ E->HL P n ops (QK M E0 K) l E F
 |[],σ,E,F,_,fr,h,r=>MJ ⟨⟨σ,r,h⟩,fr⟩
 |o::l,σ,E,F,hM,fr,h,r=>by
  unfold sxL at h
  obtain ⟨hd,h⟩:=eg h
  have step:∀{σ:Sy},Rel σ E->Region.wanted o (yE ops E)=true->sxO P o (sxL P n ops (K .normal) l) σ F->HL P n ops (QK M E0 K) (o::l) E F:=fun r hw h=>
   MS hw hd h r fun σ' E' F' r' hf h'=>xZ l σ' E' F' (fun o ho=>hM o (List.mem_cons_of_mem _ ho))
    (fr.trans fun t ht=>hf t fun e=>pF (hM o (List.mem_cons_self ..) t e) ht rfl) h' r'
  have skip:∀{σ:Sy},Rel σ E->Region.wanted o (yE ops E)=false->sxL P n ops (K .normal) l (σ.putO o.dst (.sv .und)) F->HL P n ops (QK M E0 K) (o::l) E F:=fun r hw h=>
   HJ hw hd (xZ l _ _ F (fun o ho=>hM o (List.mem_cons_of_mem _ ho)) (fr.trans (xX fun t e=>hM o (List.mem_cons_self ..) t e)) h (r.putO rfl))
  have g:=xY (ops:=ops) r o
  revert h g
  cases grd ops σ o with
  |go=>intro h g;cases g with|go hw=>exact step r hw h
  |no=>intro h g;cases g with|no hw=>exact skip r hw h
  |bad=>intro h g;exact h.elim
  |split i b want=>
   intro h g
   cases g with
   |split _ _ _ v hi hv hw=>
    have h:=Et h hv
    have r':Rel (σ.rf i (.lit v)) E:=r.rf hi hv
    split at h
    ·rename_i hvw;exact step r' (by rw [hw];exact hvw) h
    ·rename_i hvw;exact skip r' (by rw [hw];exact hvw) h
end
end Go.Proofs.YtenpmjhnhepfdaaGreatDoor.Rx
namespace Go.Proofs.YtenpmjhnhepfdaaGreatDoor.Rx
open Go
inductive PW:Pn->bW->Prop
 |nil:PW [] []
 |cons {i:Nat} {c:PH->Prop} {S:World->Prop} {pend:Pn} {Sp:bW} (h:∀F,c F->xU F S) (t:PW pend Sp):PW ((i,c)::pend) ((i,S)::Sp)
theorem PW.rest {o:Oper} {pend:Pn} {Sp:bW} (h:PW pend Sp):PW (pend.filter fun p=> !Oper.waits .any o p.1) (bW.rest .any o Sp):=by
 induction h with
 |nil=>exact .nil
 |cons h t ih=>
  rename_i i c S pend Sp
  unfold bW.rest at*
  simp only [List.filter_cons]
  cases Oper.waits .any o i
  ·exact .cons h ih
  ·exact ih
theorem H0 {F:PH} {pend:Pn} {Sp:bW} (h:PW pend Sp) {K:Prop} (hc:MU F pend K):fJ Sp F/\K:=by
 induction h with
 |nil=>exact ⟨Jy,hc⟩
 |cons h t ih=>exact ⟨Jz (h _ hc.1) (ih hc.2).1,(ih hc.2).2⟩
theorem Ia {F F':PH} {S:World->Prop} (hl:F.le F') (h:xU F S):xU F' S:=fun e w st=>h e w
 ⟨st.os,st.tape,st.output,fun b o hb=>st.heap b o (hl b o hb),fun b o hb=>⟨(by
  cases hF:F b with
  |none=>rfl
  |some u=>
   have h1:=(st.frame b o hb).1
   rw [hl b u hF] at h1
   cases h1),(st.frame b o hb).2⟩⟩
theorem Ib {F F':PH} {Sp:bW} (hl:F.le F') (h:fJ Sp F):fJ Sp F':=fun r hr=>Ia hl (h r hr)
theorem Ct {F:PH} {o:Oper} {Sp:bW} (h:fJ Sp F):fJ (bW.rest .any o Sp) F:=fun r hr=>h r (List.mem_filter.1 hr).1
theorem zZ:∀{l:List Prop},MV l->∀p∈l,p
 |[],h=>h.elim
 |[p],h=>by intro q hq;rw [List.mem_singleton] at hq;subst hq;exact h
 |p::q::l,h=>by
  intro u hu
  rcases List.mem_cons.1 hu with rfl|hu
  ·exact h.1
  ·exact zZ h.2 u hu
theorem wm {ops:Array Oper} {σ:Sy} {i:Nat} {o:Oper} {g:G}:∀{l:List Nat},sq ops σ l=some (i,o,g)->ops[i]? =some o/\grd ops σ o=g
 |[],h=>by cases h
 |j::l,h=>by
  unfold sq at h
  split at h
  ·cases h
  ·rename_i u hu
   split at h
   ·rename_i hg
    split at h
    ·cases h;exact ⟨hu,hg⟩
    ·exact wm h
   ·cases h;exact ⟨hu,rfl⟩
theorem wn {ops:Array Oper} {σ:Sy}:∀{l:List Nat},sq ops σ l=none->(∀i∈l,ops[i]?≠none)->∀i∈l,∀o,ops[i]? =some o->grd ops σ o=.go
 |[],_,_=>fun i hi=>by cases hi
 |j::l,h,hn=>by
  unfold sq at h
  split at h
  ·rename_i hj;exact absurd hj (hn j (List.mem_cons_self ..))
  ·rename_i u hu
   split at h
   ·rename_i hg
    split at h
    ·cases h
    ·intro i hi o ho
     rcases List.mem_cons.1 hi with rfl|hi
     ·rw [hu] at ho;cases ho;exact hg
     ·exact wn h (fun i hi=>hn i (List.mem_cons_of_mem _ hi)) i hi o ho
   ·cases h
section
variable {P:Program} {n:Nat} {ops:Array Oper} {M:List Nat} {E0:En} {K:CK}
theorem x6 {o:Oper} {E:En} {F:PH} {A B:En->PH->Prop} (h:aE P (execOp (ev E) o) F (bB P A o E)) (hab:∀E' F',A E' F'->B E' F'):aE P (execOp (ev E) o) F (bB P B o E):=
 cW _ _ h fun nx F' hn=>by
  cases nx with
  |value v=>exact hab _ _ hn
  |skip=>exact hab _ _ hn
  |enter f args=>exact hn.mono fun v F' h=>hab _ _ h
  |_=>exact hn
def jj (K:CK):Prop:=∀c σ F,¬K (.panic c) σ F
theorem jW (hK:jj K) (hM:∀o∈ops.toList,∀t,o.dst=some t->t∈M):∀(k fuel:Nat) (listed:Array Bool) (pend:Pn) (Sp:bW) (σ:Sy) (E:En) (F:PH),Fr M E0 E->PW pend Sp->fJ Sp F->
  sxD P n ops (K .normal) k fuel listed pend σ F->Rel σ E->RG P n ops (QK M E0 K) fuel listed Sp E F
 |0,fuel,listed,pend,Sp,σ,E,F,fr,pw,hh,h,r=>by unfold sxD at h;exact h.elim
 |k+1,fuel,listed,pend,Sp,σ,E,F,fr,pw,hh,h,r=>by
  have hp:∀c E F,¬QK M E0 K (.panic c) E F:=fun c E F ⟨⟨σ,_,h⟩,_⟩=>hK c σ F h
  have mem:∀{i:Nat} {o:Oper},ops[i]? =some o->o∈ops.toList:=fun h=>by
   rw [<- Array.getElem?_toList] at h;exact List.mem_of_getElem? h
  unfold sxD at h
  split at h
  ·rename_i hr;exact HO hr ⟨⟨σ,r,h⟩,fr⟩
  ·rename_i rs hne
   split at h
   ·exact h.elim
   ·rename_i fuel
    split at h
    ·rename_i i o g hpk
     obtain ⟨hi,hg⟩:=wm hpk
     obtain ⟨hb,h⟩:=eg h
     simp only [Bool.and_eq_true] at hb
     obtain ⟨⟨⟨h1,h2⟩,h3⟩,h4⟩:=hb
     have gk:=xY (ops:=ops) r o
     rw [hg] at gk
     split at h
     ·cases gk with
      |no hw=>exact HQ hi h1 h2 h3 h4 hp hw hh (jW hK hM k fuel _ pend Sp _ _ F (fr.trans (xX fun t e=>hM o (mem hi) t e)) pw hh h (r.putO rfl))
     ·rename_i j b want
      cases gk with
      |split _ _ _ v hj hv hw=>
       have h:=Et h hv
       exact jW hK hM k (fuel+1) _ pend Sp _ _ F fr pw hh h (r.rf hj hv)
     ·cases gk with
      |go hw=>
       obtain ⟨σ',nv,ck,v,hy,r',hnv,hck,h⟩:=Ek h r
       have fr':Fr M E0 (cO E o.dst v):=fr.trans (xX fun t e=>hM o (mem hi) t e)
       cases ck with
       |none=>exact OI hi h1 h2 h3 h4 hp hw hck hh (jW hK hM k fuel _ pend Sp _ _ F fr' pw hh h (r'.putO hnv))
       |some c=>
        refine OH hi h1 h2 h3 h4 hp hw hy hh (jW hK hM k fuel _ ((i,c)::pend) _ _ _ F fr' (.cons (fun F hc=>zS (hck.2 F hc)) pw) (Jz (zS hy) hh) h (r'.putO hnv))
     ·exact h.elim
    ·rename_i hpk
     have hall:=zZ h
     have hev:∀i∈Region.ready .any ops listed,∃o,ops[i]? =some o/\_:=fun i hi=>by
      have:=hall _ (List.mem_map.2 ⟨i,hi,rfl⟩)
      split at this
      ·exact this.elim
      ·rename_i o ho;exact ⟨o,ho,this⟩
     have hgo:=wn hpk (fun i hi e=>by obtain ⟨o,ho,_⟩:=hev i hi;rw [e] at ho;cases ho)
     refine MK rfl (by cases hl:Region.ready .any ops listed with|nil=>exact absurd hl hne|cons _ _=>rfl) fun i hi=> ?_
     obtain ⟨o,ho,hx⟩:=hev i hi
     obtain ⟨hd,hx⟩:=eg hx
     have gk:=xY (ops:=ops) r o
     rw [hgo i hi o ho] at gk
     cases gk with
     |go hw=>
      refine ⟨o,ho,hd,hw,x6 (Es hx r) ?_⟩
      rintro E' F' ⟨fl,σ',hl,r',hf,h⟩
      have fr':Fr M E0 E':=fr.trans fun t ht=>hf t fun e=>pF (hM o (mem ho) t e) ht rfl
      cases fl with
      |true=>
       have hh':=Ib (hl rfl) (Ct (o:=o) hh)
       exact ⟨hh',jW hK hM k fuel _ _ _ _ _ F' fr' pw.rest hh' h r'⟩
      |false=>
       obtain ⟨hh',h⟩:=H0 pw.rest h
       exact ⟨hh',jW hK hM k fuel _ _ _ _ _ F' fr' pw.rest hh' h r'⟩
end
end Go.Proofs.YtenpmjhnhepfdaaGreatDoor.Rx

/-
  The tree of a valid pattern.
-/
import Derived.Test.YtcemhghkipgdiaaGreatDoorPhn
import Derived.Test.YtcemhghkipgdiaaGreatDoorTie
import Derived.Test.YtcemhghkipgdiaaGreatDoorCards
import Derived.Test.YtcemhghkipgdiaaGreatDoorQq
import Derived.LaidMore
import Derived.Lay
import Derived.SevenTiedAt
import Derived.Stop.Joined
import Derived.Test.YtcemhghkipgdiaaGreatDoorGbits
import Derived.Test.YtcemhghkipgdiaaGreatDoorPhp
import Derived.Test.YtcemhghkipgdiaaGreatDoorGdiagram
namespace Go.Proofs.YtcemhghkipgdiaaGreatDoor
open Go Go.ChangeShapes Go.WideShapes Go.ChangeAt Go.RowKit Go.Proofs.Tryz
set_option maxRecDepth 100000
abbrev qD:List (String×DataW Unit):=[("math/bits.deBruijn64tab",Rows.laid_math_bits_deBruijn64tab)]
theorem qE:prog.cellsOf 5=1:=by kernel_rfl
theorem NT:ownKnob prog.godebug=Option.none:=by kernel_rfl
theorem HJ:laidOutB prog=true:=by kernel_rfl
theorem L3:(Rows.laid_math_bits_deBruijn64tab:DataW Unit)=.agg (xj.map λ(n:Nat)=> .lit (.int .u8 (n:Int))):=by kernel_rfl
theorem xe {W:World} (h:laidMetH prog qD W):Tab (hF W):=by
 intro r v hv;have hr:r<64:=(N6.1 hv).1;rw [MakeChecks.laidMetH_plain _ _ _ (by kernel_rfl)] at h;obtain ⟨ps,⟨g,t,cs,fuel,p,q,hg,ht,hw,hd,_,_⟩,_,_⟩:=h;obtain rfl:=Vl ((show prog.globalNamed "math/bits.deBruijn64tab"=some 0 by kernel_rfl).symm.trans hg);obtain rfl:=Vl ((show (prog.globals[0]?).map (·.type)=some 262 by kernel_rfl).symm.trans ht);obtain ⟨xs,m,_,ex,_,hl,hel⟩:=DataW.trod_array underlying262 hd;have hE:=hel r hr;rw [qE,Vs,N5 (by omega)] at hE;obtain ⟨z,e1,e2,_⟩:=DataW.trod_int underlying5 hE;rw [L3] at ex;have e3:(xs.map (·.1))=xj.map λ(n:Nat)=> .lit (.int .u8 (n:Int)):=(DataW.agg.inj (Prod.mk.inj ex).1).symm;have e4:(xs.map (·.1))[r]? =(xj.map λ(n:Nat)=>(DataW.lit (.int .u8 (n:Int)):DataW Unit))[r]? :=by rw [e3]
 rw [U5,U5,N5 (by omega:r<xs.length),hv,e2] at e4;have hz:z=(v:Int):=by simp only [VD,Option.some.injEq,DataW.lit.injEq,Lit.int.injEq,true_and] at e4;exact e4
 refine AW ?_;rw [World.var?_cell hg hw r,<- hz];have:cs.toList[r]? =some (.int .u8 z):=by
  have h0:((cs.toList.drop r).take 1)[0]? =some (.int .u8 z):=by rw [e1];rfl
  simpa using h0
 simpa using this
theorem DZ (os:Os) (args:Γ):laidMetH prog qD ((World.laidAll prog os qD).forCall (λ_ _=>0) ⟨#[],args,[]⟩).memory:=by rw [MakeChecks.laidMetH_plain _ _ _ (by kernel_rfl)];exact laidMet_laidAll _ (by kernel_rfl) (by kernel_rfl)
end Go.Proofs.YtcemhghkipgdiaaGreatDoor
namespace Go.Proofs.YtcemhghkipgdiaaGreatDoor
open Go Go.ChangeShapes Go.WideShapes Go.ChangeAt Go.RowKit Go.Deep Go.Proofs.Tryz
set_option maxRecDepth 10000
section
variable {H:Type} {enc:TypeId×Value->H} {P:Program} {W:World}
theorem D0 {t e fuel:Nat} {k:IntKind} {c:Value} {x:DataW H×List MemPlace} (ht:P.underlying t=some (.slice e)) (he:P.underlying e=some (.int k)) (hc:P.cellsOf e=1)
  (h:DataW.trod enc P W 0 (λ_=>true) true fuel t [c]=some x) (hw:(x.1.weights P t).all (·<=reachBytes)=true):
  ∃(sl:Sl) (zs:Φ),c=Sl.v sl/\RdS (hF W) sl 1 (zs.map (Value.int k))/\(∀z∈zs,(Lit.int k z).wf=true)/\sl.len*P.bytesOf e<=reachBytes/\sl.cap*P.bytesOf e<=reachBytes:=by
 rcases open_slice1 ht hc h with ⟨hcs,rfl⟩|⟨a,len,cap,m,n,V,D,Pl,hcs,_,hl,hm,hmm,rfl,hx⟩
 ·cases hcs;exact ⟨Sl.nil,[],rfl,RdS.nil _ _,by simp,by simp [Sl.nil],by simp [Sl.nil]⟩
 ·cases hcs;simp only [if_true] at hmm;subst hmm;have hz:∀i,i<m->∃z,V i=.int k z/\(Lit.int k z).wf=true:=λi hi=>by obtain ⟨z,h1,_,h3⟩:=DataW.trod_int he (hx i hi).2;exact ⟨z,by simpa using h1,h3⟩
  obtain ⟨Z,hZ⟩:=choose_lt hz;have hb:m*P.bytesOf e<=reachBytes:=by simp only [DataW.weights,ht,WC,VB,decide_eq_true_eq,U6,Vw] at hw;rw [show len+(m - len)=m by omega] at hw;exact hw.1
  refine ⟨⟨some a,len,m⟩,(List.range len).map Z,rfl,⟨by simp,hl,λhp=> ?_⟩,?_,VK (V0 _ hl) hb,hb⟩
  ·have hs:=World.cell?_spot (hx 0 (by simp only at hp;omega)).1;obtain ⟨b,o,spot⟩:=a;simp only [Addr.add] at hs;subst hs;refine ⟨b,o,rfl,λi hi=> ?_⟩;simp at hi;have:=AW (hx i (by omega)).1;rw [(hZ i (by omega)).1] at this;rw [aB] at this;simpa using this
  ·intro z hz;simp only [U8,VA] at hz;obtain ⟨i,hi,rfl⟩:=hz;exact (hZ i (by omega)).2
end
theorem L4 {z:Int} (h:(Lit.int .u8 z).wf=true):0<=z/\z<=255:=bounds_u8 h
theorem HK {F:PH} {sl:Sl} {zs:Φ} (h:RdS F sl 1 (zs.map (Value.int .u8))) (hb:sl.len*prog.bytesOf 5<=reachBytes):zs.length<=9000000000000000:=by
 have:=h.len;rw [U6] at this;have e:prog.bytesOf 5=1:=by kernel_rfl
 have e2:reachBytes=140737488351232:=rfl;rw [e,e2] at hb;omega
class Mem (α:Type) where
 n:Nat
 rep:PH->α->Γ->Prop
 len:∀{F:PH} {x:α} {c:Γ},rep F x c->c.size=n
 le:∀{F G:PH} {x:α} {c:Γ},F.le G->rep F x c->rep G x c
 st:∀{F:PH} {x:α} {c:Γ},rep F x c->∀v∈c.toList,ak v
def cat (vs:List Γ):Ξ:=vs.flatMap Array.toList
theorem bR (c:Γ) (vs:List Γ):cat (c::vs)=c.toList++cat vs:=rfl
theorem bF (a b:List Γ):cat (a++b)=cat a++cat b:=by simp [cat]
theorem bV (c:Γ):cat [c]=c.toList:=by simp [cat]
inductive cN {α:Type} [Mem α] (F:PH):List α->List Γ->Prop
 |nil:cN F [] []
 |cons {x:α} {c:Γ} {l:List α} {vs:List Γ}:Mem.rep F x c->cN F l vs->cN F (x::l) (c::vs)
namespace cN
section
variable {α:Type} [Mem α] {F G:PH} {l m:List α} {vs ws:List Γ}
theorem le (hl:F.le G) (h:cN F l vs):cN G l vs:=by
 induction h with
 |nil=>exact .nil
 |cons h _ ih=>exact .cons (Mem.le hl h) ih
theorem cat_len (h:cN F l vs):(cat vs).length=l.length*Mem.n α:=by
 induction h with
 |nil=>simp [cat]
 |cons h _ ih=>rw [bR,UV,ih,U4,Mem.len h,Vf,Wf,Nat.add_comm]
theorem append (h:cN F l vs) (k:cN F m ws):cN F (l++m) (vs++ws):=by
 induction h with
 |nil=>exact k
 |cons h _ ih=>exact .cons h ih
theorem st (h:cN F l vs):∀v∈cat vs,ak v:=by
 induction h with
 |nil=>intro v hv;cases hv
 |cons h _ ih=>
  intro v hv;rw [bR,UX] at hv;rcases hv with hv|hv
  ·exact Mem.st h v hv
  ·exact ih v hv
theorem get (h:cN F l vs):∀{i:Nat} {x:α},l[i]? =some x->∃c,vs[i]? =some c/\Mem.rep F x c/\((cat vs).drop (i*Mem.n α)).take (Mem.n α)=c.toList:=by
 induction h with
 |nil=>intro i x hx;simp at hx
 | @cons y c l vs h h2 ih=>
  intro i x hx;have hlen:=Mem.len h;cases i with
  |zero=>simp at hx;subst hx;refine ⟨c,rfl,h,?_⟩;rw [V5,Vz,bR,Vg (by simp [hlen]),UZ (by simp [hlen])]
  |succ i=>simp at hx;obtain ⟨d,h3,h4,h5⟩:=ih hx;refine ⟨d,by simpa using h3,h4,?_⟩;rw [bR,Wf,List.drop_append,List.drop_eq_nil_of_le (by simp [hlen]),Vt];rw [show i*Mem.n α+Mem.n α - c.toList.length=i*Mem.n α by simp [hlen]];exact h5
theorem take (h:cN F l vs) (k:Nat):cN F (l.take k) (vs.take k):=by
 induction h generalizing k with
 |nil=>simp only [List.take_nil];exact .nil
 |cons h _ ih=>
  cases k with
  |zero=>exact .nil
  |succ k=>exact .cons h (ih k)
theorem drop (h:cN F l vs) (k:Nat):cN F (l.drop k) (vs.drop k):=by
 induction h generalizing k with
 |nil=>simp only [List.drop_nil];exact .nil
 |cons h h2 ih=>
  cases k with
  |zero=>exact .cons h h2
  |succ k=>exact ih k
theorem cat_take (h:cN F l vs) (k:Nat):(cat vs).take (k*Mem.n α)=cat (vs.take k):=by
 induction h generalizing k with
 |nil=>simp [cat]
 |cons h _ ih=>
  cases k with
  |zero=>simp [cat]
  |succ k=>have hlen:=Mem.len h;rw [List.take_succ_cons,bR,bR,Wf,List.take_append,UZ (by simp [hlen])];congr 1;rw [show k*Mem.n α+Mem.n α - (Array.toList _).length=k*Mem.n α by simp [hlen]];exact ih k
theorem cat_drop (h:cN F l vs) (k:Nat):(cat vs).drop (k*Mem.n α)=cat (vs.drop k):=by
 induction h generalizing k with
 |nil=>simp [cat]
 |cons h _ ih=>
  cases k with
  |zero=>simp [cat]
  |succ k=>have hlen:=Mem.len h;rw [WF,bR,Wf,List.drop_append,List.drop_eq_nil_of_le (by simp [hlen]),Vt];rw [show k*Mem.n α+Mem.n α - (Array.toList _).length=k*Mem.n α by simp [hlen]];exact ih k
theorem set (h:cN F l vs) {i:Nat} {x:α} {c:Γ} (hc:Mem.rep F x c):cN F (l.set i x) (vs.set i c):=by
 induction h generalizing i with
 |nil=>simp only [List.set_nil];exact .nil
 |cons h h2 ih=>
  cases i with
  |zero=>exact .cons hc h2
  |succ i=>exact .cons h ih
end
end cN
def RL {α:Type} [Mem α] (F:PH) (s:Sl) (l:List α):Prop:=∃vs,cN F l vs/\RdS F s (Mem.n α) (cat vs)
namespace RL
section
variable {α:Type} [Mem α] {F G:PH} {s:Sl} {l:List α}
theorem le (h:RL F s l) (hl:F.le G):RL G s l:=by obtain ⟨vs,h1,h2⟩:=h;exact ⟨vs,h1.le hl,h2.le hl⟩
theorem nil (F:PH):RL F Sl.nil ([]:List α):=⟨[],.nil,RdS.nil F _⟩
theorem len (h:RL F s l) (hn:0<Mem.n α):s.len=l.length:=by obtain ⟨vs,h1,h2⟩:=h;have:=h2.len;rw [h1.cat_len] at this;exact (Nat.eq_of_mul_eq_mul_right hn this).symm
theorem cap (h:RL F s l):s.len<=s.cap:=by obtain ⟨vs,h1,h2⟩:=h;exact h2.cap
theorem get (h:RL F s l) (hn:0<Mem.n α) {i:Nat} {x:α} (hx:l[i]? =some x):∃a c,s.base=some a/\F.row (a.add (i*Mem.n α)) c/\Mem.rep F x c:=by
 obtain ⟨vs,h1,h2⟩:=h;obtain ⟨c,h3,h4,h5⟩:=h1.get hx;have hi:i<l.length:=(N6.1 hx).1;have hlen:=h2.len;rw [h1.cat_len] at hlen;have hp:0<s.len:=by have:=Nat.eq_of_mul_eq_mul_right hn hlen;omega
 obtain ⟨b,o,hb,_⟩:=h2.cells hp;refine ⟨⟨b,o,none⟩,c,hb,h2.row hb _ c ?_,h4⟩;rw [Mem.len h4];exact h5.symm
end
end RL
instance:Mem Int where
 n:=1
 rep _ x c:=c= #[vi x]
 len h:=by rw [h];rfl
 le _ h:=h
 st h:=by rw [h];simp [ak]
instance:Mem ByteArray where
 n:=1
 rep _ x c:=c= #[.string x]
 len h:=by rw [h];rfl
 le _ h:=h
 st h:=by rw [h];simp [ak]
instance:Mem Br where
 n:=3
 rep _ x c:=c=aV x
 len h:=by rw [h];rfl
 le _ h:=h
 st h:=by rw [h];simp [ak]
instance:Mem Nd where
 n:=5
 rep _ x c:=c=x.arr
 len h:=by rw [h];rfl
 le _ h:=h
 st h:=by rw [h];simp [ak]
structure Sy where
 t:Bool
 i:Int
deriving DecidableEq
abbrev Sy.arr (x:Sy):Γ:= #[.bool x.t,vi x.i]
instance:Mem Sy where
 n:=2
 rep _ x c:=c=x.arr
 len h:=by rw [h];rfl
 le _ h:=h
 st h:=by rw [h];simp [ak]
structure Cn where
 k:Int
 a:Int
 b:Int
deriving DecidableEq
abbrev Cn.arr (x:Cn):Γ:= #[vi x.k,vi x.a,vi x.b]
instance:Mem Cn where
 n:=3
 rep _ x c:=c=x.arr
 len h:=by rw [h];rfl
 le _ h:=h
 st h:=by rw [h];simp [ak]
theorem RL.flat {α:Type} [Mem α] {f:α->Γ} (hf:∀F x c,Mem.rep F x c↔c=f x) {F:PH} {s:Sl} {l:List α}:RL F s l↔RdS F s (Mem.n α) (l.flatMap λx=>(f x).toList):=by
 have key:∀(l:List α) (vs:List Γ),cN F l vs↔vs=l.map f:=by
  intro l;induction l with
  |nil=>intro vs;exact ⟨λh=>by cases h;rfl,λh=>by rw [h];exact .nil⟩
  |cons x l ih=>
   intro vs;constructor
   ·intro h;cases h with
    |cons h1 h2=>rw [(hf _ _ _).1 h1,(ih _).1 h2];rfl
   ·intro h;rw [h];exact .cons ((hf _ _ _).2 rfl) ((ih _).2 rfl)
 have e:cat (l.map f)=l.flatMap λx=>(f x).toList:=by simp [cat,List.flatMap_map]
 constructor
 ·rintro ⟨vs,h1,h2⟩;rw [(key l vs).1 h1,e] at h2;exact h2
 ·intro h;exact ⟨_,(key l _).2 rfl,by rw [e];exact h⟩
theorem RL.brs {F:PH} {s:Sl} {l:List Br}:RL F s l↔RdS F s 3 (aY l):=RL.flat (f:=aV) (λ_ _ _=>Iff.rfl)
theorem RL.nds {F:PH} {s:Sl} {l:List Nd}:RL F s l↔RdS F s 5 (ft l):=RL.flat (f:=Nd.arr) (λ_ _ _=>Iff.rfl)
theorem Jy {α:Type} (f:α->Value) (l:List α):(l.flatMap λx=>(#[f x]:Γ).toList)=l.map f:=by
 induction l with
 |nil=>rfl
 |cons x l ih=>rw [VC,ih];rfl
theorem RL.ints {F:PH} {s:Sl} {l:Φ}:RL F s l↔RdS F s 1 (l.map vi):=by rw [RL.flat (f:=λx=> #[vi x]) (λ_ _ _=>Iff.rfl),Jy];rfl
theorem RL.strs {F:PH} {s:Sl} {l:List ByteArray}:RL F s l↔RdS F s 1 (l.map Value.string):=by rw [RL.flat (f:=λx=> #[.string x]) (λ_ _ _=>Iff.rfl),Jy];rfl
theorem DV.mk {F:PH} {s:Sl} {d:Dia} (h:RL F s d.1):DV F #[s.v,vi d.2] d:=⟨s,rfl,RL.brs.1 h⟩
structure Tk where
 name:ByteArray
 cls:Int
 lit:ByteArray
 pat:List Nd
 smp:ByteArray
 cond:Dia
structure Sco where
 o:Bool
 d:Int
 k:Int
 u:Int
 a:Int
deriving DecidableEq
structure Pr where
 name:ByteArray
 left:Int
 right:List Sy
 cond:Dia
 brk:Bool
 rank:Int
 lay:List Cn
 sco:Sco
structure Lv where
 ps:Φ
 assoc:Int
 cond:Dia
structure Fi where
 k:Int
 par:Int
 pos:Int
 ch:Int
 left:Int
 tok:Int
 toks:Φ
 cond:Dia
structure Gr where
 conds:List ByteArray
 fam:Dia
 toks:List Tk
 nons:List ByteArray
 prods:List Pr
 start:Int
 lvs:List Lv
 fils:List Fi
deriving instance DecidableEq for Tk,Pr,Lv,Fi,Gr
abbrev Tk.arr (x:Tk) (p n:Sl):Γ:= #[.string x.name,vi x.cls,.string x.lit,p.v,.string x.smp,n.v,vi x.cond.2]
abbrev Pr.arr (x:Pr) (r n l:Sl):Γ:= #[.string x.name,vi x.left,r.v,n.v,vi x.cond.2,.bool x.brk,vi x.rank,l.v,.bool x.sco.o,vi x.sco.d,vi x.sco.k,vi x.sco.u,vi x.sco.a]
abbrev Lv.arr (x:Lv) (p n:Sl):Γ:= #[p.v,vi x.assoc,n.v,vi x.cond.2]
abbrev Fi.arr (x:Fi) (t n:Sl):Γ:= #[vi x.k,vi x.par,vi x.pos,vi x.ch,vi x.left,vi x.tok,t.v,n.v,vi x.cond.2]
abbrev Gr.arr (g:Gr) (c n t s p l f:Sl):Γ:= #[c.v,n.v,vi g.fam.2,t.v,s.v,p.v,vi g.start,l.v,f.v]
instance:Mem Tk where
 n:=7
 rep F x c:=∃p n,c=x.arr p n/\RL F p x.pat/\RL F n x.cond.1
 len h:=by obtain ⟨p,n,rfl,_⟩:=h;rfl
 le hl h:=by obtain ⟨p,n,h1,h2,h3⟩:=h;exact ⟨p,n,h1,h2.le hl,h3.le hl⟩
 st h:=by obtain ⟨p,n,rfl,_⟩:=h;simp [ak,Sl.v]
instance:Mem Pr where
 n:=13
 rep F x c:=∃r n l,c=x.arr r n l/\RL F r x.right/\RL F n x.cond.1/\RL F l x.lay
 len h:=by obtain ⟨r,n,l,rfl,_⟩:=h;rfl
 le hl h:=by obtain ⟨r,n,l,h1,h2,h3,h4⟩:=h;exact ⟨r,n,l,h1,h2.le hl,h3.le hl,h4.le hl⟩
 st h:=by obtain ⟨r,n,l,rfl,_⟩:=h;simp [ak,Sl.v]
instance:Mem Lv where
 n:=4
 rep F x c:=∃p n,c=x.arr p n/\RL F p x.ps/\RL F n x.cond.1
 len h:=by obtain ⟨p,n,rfl,_⟩:=h;rfl
 le hl h:=by obtain ⟨p,n,h1,h2,h3⟩:=h;exact ⟨p,n,h1,h2.le hl,h3.le hl⟩
 st h:=by obtain ⟨p,n,rfl,_⟩:=h;simp [ak,Sl.v]
instance:Mem Fi where
 n:=9
 rep F x c:=∃t n,c=x.arr t n/\RL F t x.toks/\RL F n x.cond.1
 len h:=by obtain ⟨p,n,rfl,_⟩:=h;rfl
 le hl h:=by obtain ⟨p,n,h1,h2,h3⟩:=h;exact ⟨p,n,h1,h2.le hl,h3.le hl⟩
 st h:=by obtain ⟨p,n,rfl,_⟩:=h;simp [ak,Sl.v]
structure GS (F:PH) (g:Gr) (c n t s p l f:Sl):Prop where
 c:RL F c g.conds
 n:RL F n g.fam.1
 t:RL F t g.toks
 s:RL F s g.nons
 p:RL F p g.prods
 l:RL F l g.lvs
 f:RL F f g.fils
theorem GS.le {F G:PH} {g:Gr} {c n t s p l f:Sl} (h:GS F g c n t s p l f) (hl:F.le G):GS G g c n t s p l f:=
 ⟨h.c.le hl,h.n.le hl,h.t.le hl,h.s.le hl,h.p.le hl,h.l.le hl,h.f.le hl⟩
def GV (F:PH) (v:Γ) (g:Gr):Prop:=∃c n t s p l f,v=g.arr c n t s p l f/\GS F g c n t s p l f
theorem GV.le {F G:PH} {v:Γ} {g:Gr} (h:GV F v g) (hl:F.le G):GV G v g:=by obtain ⟨c,n,t,s,p,l,f,h1,h2⟩:=h;exact ⟨c,n,t,s,p,l,f,h1,h2.le hl⟩
theorem GV.size {F:PH} {v:Γ} {g:Gr} (h:GV F v g):v.size=9:=by obtain ⟨c,n,t,s,p,l,f,rfl,_⟩:=h;rfl
theorem GV.st {F:PH} {v:Γ} {g:Gr} (h:GV F v g):∀x∈v.toList,ak x:=by obtain ⟨c,n,t,s,p,l,f,rfl,_⟩:=h;simp [ak,Sl.v]
set_option maxHeartbeats 4000000
section
variable {F:PH}
theorem rdn {s:Sl} {l:List Nd} (h:RdS F s 5 (ft l)) {i:Nat} {x:Nd} (hx:l[i]? =some x):∃a,s.base=some a/\F.row (a.add (i*5)) x.arr:=by
 obtain ⟨hi,hx⟩:=N6.1 hx;subst hx;have hlen:=h.nlen;obtain ⟨b,o,hb,_⟩:=h.cells (by omega)
 exact ⟨_,hb,h.row hb (i*5) l[i].arr (by
  have:=t7 l i hi
  simpa [Nd.arr,Nd.cells] using this.symm)⟩
end
def ar (k:Int):Int:=if k=4 then 1 else if k=2\/k=3 then 2 else if k=0\/k=1 then 0 else -1
def okN (i:Nat) (x:Nd):Prop:=0<=ar x.k/\(x.k=1->0<=x.lo/\x.lo<=x.hi/\x.hi<=255)/\(x.k≠1->x.lo=0/\x.hi=0)/\(ar x.k<1->x.a=0)/\(ar x.k<2->x.b=0)/\
 (1<=ar x.k->0<=x.a/\x.a<i)/\(2<=ar x.k->0<=x.b/\x.b<i)
def us (x:Nd):Φ:=if 2<=ar x.k then [x.b,x.a] else if 1<=ar x.k then [x.a] else []
def usL:List Nd->Φ
 |[]=>[]
 |x::l=>usL l++us x
theorem qF (l:List Nd) (x:Nd):usL (l++[x])=us x++usL l:=by
 induction l with
 |nil=>simp [usL]
 |cons y l ih=>simp [usL,ih]
structure GoodL (l:List Nd):Prop where
 ne:l≠[]
 ok:∀i x,l[i]? =some x->okN i x
 nd:(usL l).Nodup
 all:∀i:Nat,i+1<l.length->(i:Int)∈usL l
open Classical in
noncomputable def iZ (l:List Nd):Int:=if 512<l.length then 2 else if GoodL l then 0 else 40
section
variable {F0 F:PH}
theorem yG (k:Int):ai prog 183 #[vi k] F λr F'=>r=vi (ar k)/\F'=F:=by
 refine Ot ?_;unfold JS;have j1:∀t:Bool,t=decide (k=0\/k=1)->pj k t (λr F'=>r=vi (ar k)/\F'=F) F:=λt ht=>by
  unfold pj;refine ⟨λh=>⟨?_,rfl⟩,λh=> ?_⟩
  ·have:=of_decide_eq_true (ht.symm.trans h);have e1:ar k=0:=by unfold ar;rw [if_neg (by omega),if_neg (by omega),if_pos (by omega)]
   rw [e1]
  ·have h01:=of_decide_eq_false (ht.symm.trans h);refine ⟨λh4=>⟨?_,rfl⟩,λh4=>⟨λh2=>⟨λ_=>⟨?_,rfl⟩,λh=>absurd h2 h⟩,λh2=>⟨λh3=>⟨?_,rfl⟩,λh3=>⟨?_,rfl⟩⟩⟩⟩
   ·have e1:ar k=1:=by unfold ar;rw [if_pos (by omega)]
    rw [e1]
   ·have e1:ar k=2:=by unfold ar;rw [if_neg (by omega),if_pos (by omega)]
    rw [e1]
   ·have e1:ar k=2:=by unfold ar;rw [if_neg (by omega),if_pos (by omega)]
    rw [e1]
   ·have e1:ar k= -1:=by unfold ar;rw [if_neg (by omega),if_neg (by omega),if_neg (by omega)]
    rw [e1]
 refine ⟨λh=>j1 _ ?_,λh=>j1 _ ?_⟩
 ·rw [U3];simp;omega
 ·rw [U3];simp;omega
def gT (n:Nat) (W:Φ):Ξ:=(List.range n).map λ(i:Nat)=>Value.bool (decide ((i:Int)∈W))
structure Usd (F0 F:PH) (b u n:Nat) (W:Φ):Prop where
 zb:F0 b=none
 zu:F0 u=none
 le:F0.le F
 ne:u≠b
 qb:F b=some (.cells #[Sl.v ⟨some ⟨u,0,none⟩,n,n⟩] 211)
 qu:F u=some (.cells (gT n W).toArray 4)
theorem CN (n:Nat) (W:Φ) (i:Nat) (hi:i<n):(gT n W).toArray.setIfInBounds i (.bool true)=(gT n ((i:Int)::W)).toArray:=by
 apply Array.ext';rw [Array.toList_setIfInBounds];apply VI;intro j;rw [V6];simp only [gT,U6,Vw,U5];by_cases h:i=j
 ·subst h;rw [if_pos rfl,if_pos hi,Vy hi];simp
 ·rw [if_neg h];by_cases hj:j<n
  ·rw [Vy hj];simp only [VD,UT];congr 2;rw [U3];simp only [decide_eq_true_eq];constructor
   ·exact .inr
   ·rintro (e|e)
    ·omega
    ·exact e
  ·rw [VX (by simp;omega)];rfl
theorem tM {n:Nat} {W:Φ} {i:Nat} (hi:i<n):(gT n W).toArray[i]? =some (.bool (decide ((i:Int)∈W))):=by simp [gT,hi]
theorem qG {b u n:Nat} {W:Φ} (h:Usd F0 F b u n W) (i:Int) {at_:Nat} (ha:at_<=n):
  ai prog 182 #[vi i,vi at_,pa b] F λr F'=>((0<=i/\i<at_/\i ∉ W)/\r=.bool true/\Usd F0 F' b u n (i::W)/\∀x,x≠u->F' x=F x)\/(¬(0<=i/\i<at_/\i ∉ W)/\r=.bool false/\F'=F):=by
 refine Oq ?_;unfold JR;refine ⟨λh0=> .inr ⟨by omega,rfl,rfl⟩,λh0=>⟨λh1=> .inr ⟨by omega,rfl,rfl⟩,λh1=> ?_⟩⟩;obtain ⟨k,rfl⟩:=Int.eq_ofNat_of_zero_le (by omega:0<=i);have hk:k<n:=by omega
 have hr:F.cell ((Addr.mk u 0 none).add (Int.toNat (k:Int)*1))=some (.bool (decide ((k:Int)∈W))):=by rw [N4,Vs,show (Addr.mk u 0 none).add k=⟨u,k,none⟩ by simp [Addr.add];omega,am h.qu];exact tM hk
 have hc:F.cell ⟨b,0,none⟩=some (Sl.v ⟨some ⟨u,0,none⟩,n,n⟩):=by rw [am h.qb];rfl
 refine ⟨_,rfl,_,hc,_,rfl,by omega,by simp only;omega,_,hr,λhm=> .inr ⟨λhn=>hn.2.2 (of_decide_eq_true hm),rfl,rfl⟩,λhm=>⟨_,hc,_,rfl,by omega,by simp only;omega,?_⟩⟩;have hm:=of_decide_eq_false hm;refine oR (b:=u) (o:=k) (by rw [N4,Vs];simp [Addr.add];omega) h.qu (by simp [gT];exact hk) ?_;refine .inl ⟨⟨by omega,by omega,hm⟩,rfl,⟨h.zb,h.zu,aw h.le h.zu,h.ne,?_,?_⟩,λx hx=>av _ _ hx⟩
 ·rw [av _ _ h.ne.symm];exact h.qb
 ·show (F.set u (.cells ((gT n W).toArray.setIfInBounds k (.bool true)) 4)) u=_;rw [CN n W k hk];exact al _ _ _
theorem D3 {s:Sl} {b u n b6 j:Nat} {W:Φ} {x:Nd} {ok:Bool} {N:Ω} {R:Value->Ψ} (h:Usd F0 F b u n W) (q6:F b6=some (.cells x.arr 149)) (hj:j<=n) (hu:u≠b6)
  (bad:¬(ok=true/\(ar x.k<1->x.a=0)/\(ar x.k<2->x.b=0)/\(1<=ar x.k->0<=x.a/\x.a<j/\x.a ∉ W)/\(2<=ar x.k->0<=x.b/\x.b<j/\x.b ∉ x.a::W))->∀F',F0.le F'->R (vi 40) F')
  (good:(ok=true/\(ar x.k<1->x.a=0)/\(ar x.k<2->x.b=0)/\(1<=ar x.k->0<=x.a/\x.a<j/\x.a ∉ W)/\(2<=ar x.k->0<=x.b/\x.b<j/\x.b ∉ x.a::W))->∀F',Usd F0 F' b u n (us x++W)->N (IntKind.i64.wrap ((j:Int)+1)) F'):
  fN N s b j b6 (ar x.k) ok R F:=by
 have cA:∀{F':PH},F' b6=some (.cells x.arr 149)->F'.cell (Addr.mk b6 3 none)=some (vi x.a):=λh=>by rw [am h];rfl
 have cB:∀{F':PH},F' b6=some (.cells x.arr 149)->F'.cell (Addr.mk b6 4 none)=some (vi x.b):=λh=>by rw [am h];rfl
 unfold fN;refine ⟨λhk=>bad (λhg=>by rw [hg.1] at hk;cases hk) _ h.le,λhk=> ?_⟩;have hok:ok=true:=by simpa using hk
 refine ⟨λh1=>⟨_,cA q6,λha=>bad (λhg=>ha (hg.2.1 h1)) _ h.le,λha=>⟨λh2=>⟨_,cB q6,λhb=>bad (λhg=>hb (hg.2.2.1 h2)) _ h.le,λhb=>⟨λh3=>absurd h3 (by omega),λh3=>⟨λh4=>absurd h4 (by omega),λh4=> ?_⟩⟩⟩,λh2=>absurd h2 (by omega)⟩⟩,
  λh1=>⟨λh2=>⟨_,cB q6,λhb=>bad (λhg=>hb (hg.2.2.1 h2)) _ h.le,λhb=>⟨λh3=>⟨_,cA q6,?_⟩,λh3=>absurd h3 (by omega)⟩⟩,λh2=>⟨λh3=>⟨_,cA q6,?_⟩,λh3=>absurd h3 (by omega)⟩⟩⟩
 ·unfold cd;refine good ⟨hok,λ_=>by omega,λ_=>by omega,λh=>by omega,λh=>by omega⟩ _ ?_;have:us x=[]:=by unfold us;rw [if_neg h4,if_neg h3]
  rw [this];exact h
 ·refine (qG h x.a hj).mono ?_;rintro _ F2 (⟨hg,rfl,h2',hk2⟩|⟨hg,rfl,rfl⟩)
  ·refine ⟨_,rfl,λh=>by simp at h,λ_=>⟨λh4=>absurd h4 (by omega),λh4=> ?_⟩⟩;unfold cd;refine good ⟨hok,λ_=>by omega,λ_=>by omega,λ_=>hg,λh=>by omega⟩ _ ?_;have:us x=[x.a]:=by unfold us;rw [if_neg h4,if_pos h3]
   rw [this];exact h2'
  ·exact ⟨_,rfl,λ_=>bad (λhg2=>hg (hg2.2.2.2.1 h3)) _ h.le,λh=>by simp at h⟩
 ·refine (qG h x.a hj).mono ?_;rintro _ F2 (⟨hg,rfl,h2',hk2⟩|⟨hg,rfl,rfl⟩)
  ·have q6':F2 b6=some (.cells x.arr 149):=(hk2 _ hu.symm).trans q6;refine ⟨_,rfl,λh=>by simp at h,λ_=>⟨λh4=>⟨_,cB q6',?_⟩,λh4=>absurd h4 (by omega)⟩⟩;refine (qG h2' x.b hj).mono ?_;rintro _ F3 (⟨hg3,rfl,h3',hk3⟩|⟨hg3,rfl,rfl⟩)
   ·refine ⟨_,rfl,λh=>by simp at h,λ_=> ?_⟩;unfold cd;refine good ⟨hok,λ_=>by omega,λ_=>by omega,λ_=>hg,λ_=>hg3⟩ _ ?_;have:us x=[x.b,x.a]:=by unfold us;rw [if_pos h4]
    rw [this];exact h3'
   ·exact ⟨_,rfl,λ_=>bad (λhg2=>hg3 (hg2.2.2.2.2 h4)) _ h2'.le,λh=>by simp at h⟩
  ·exact ⟨_,rfl,λ_=>bad (λhg2=>hg (hg2.2.2.2.1 h3)) _ h.le,λh=>by simp at h⟩
end
theorem SZ:tsz prog 4=some (1,1):=by kernel_rfl
theorem S4:bP prog 4=some (.bool false):=by kernel_rfl
structure GoodTo (l:List Nd) (j:Nat):Prop where
 ok:∀i x,i<j->l[i]? =some x->okN i x
 nd:(usL (l.take j)).Nodup
theorem GoodTo.zero (l:List Nd):GoodTo l 0:=⟨λi x h=>by omega,by simp [usL]⟩
theorem xf {j:Nat} {x:Nd} {W:Φ}:(okN j x/\(us x++W).Nodup)↔W.Nodup/\(0<=ar x.k/\(x.k=1->0<=x.lo/\x.lo<=x.hi/\x.hi<=255)/\(x.k≠1->x.lo=0/\x.hi=0))/\
  (ar x.k<1->x.a=0)/\(ar x.k<2->x.b=0)/\(1<=ar x.k->0<=x.a/\x.a<j/\x.a ∉ W)/\(2<=ar x.k->0<=x.b/\x.b<j/\x.b ∉ x.a::W):=by
 unfold okN us;by_cases h2:2<=ar x.k
 ·rw [if_pos h2];simp only [VF,Vt,VM,UT,not_or];constructor
  ·rintro ⟨⟨a1,a2,a3,a4,a5,a6,a7⟩,⟨n1,n2⟩,n3,n4⟩;exact ⟨n4,⟨a1,a2,a3⟩,a4,a5,λh=>⟨(a6 h).1,(a6 h).2,n3⟩,λh=>⟨(a7 h).1,(a7 h).2,n1,n2⟩⟩
  ·rintro ⟨n4,⟨a1,a2,a3⟩,a4,a5,a6,a7⟩;exact ⟨⟨a1,a2,a3,a4,a5,λh=>⟨(a6 h).1,(a6 h).2.1⟩,λh=>⟨(a7 h).1,(a7 h).2.1⟩⟩,⟨(a7 h2).2.2.1,(a7 h2).2.2.2⟩,(a6 (by omega)).2.2,n4⟩
 ·rw [if_neg h2];by_cases h1:1<=ar x.k
  ·rw [if_pos h1];simp only [VF,Vt,VM];constructor
   ·rintro ⟨⟨a1,a2,a3,a4,a5,a6,a7⟩,n3,n4⟩;exact ⟨n4,⟨a1,a2,a3⟩,a4,a5,λh=>⟨(a6 h).1,(a6 h).2,n3⟩,λh=>absurd h h2⟩
   ·rintro ⟨n4,⟨a1,a2,a3⟩,a4,a5,a6,a7⟩;exact ⟨⟨a1,a2,a3,a4,a5,λh=>⟨(a6 h).1,(a6 h).2.1⟩,λh=>absurd h h2⟩,(a6 h1).2.2,n4⟩
  ·rw [if_neg h1];simp only [Vt];constructor
   ·rintro ⟨⟨a1,a2,a3,a4,a5,a6,a7⟩,n4⟩;exact ⟨n4,⟨a1,a2,a3⟩,a4,a5,λh=>absurd h h1,λh=>absurd h h2⟩
   ·rintro ⟨n4,⟨a1,a2,a3⟩,a4,a5,a6,a7⟩;exact ⟨⟨a1,a2,a3,a4,a5,λh=>absurd h h1,λh=>absurd h h2⟩,n4⟩
theorem GoodTo.succ {l:List Nd} {j:Nat} {x:Nd} (hx:l[j]? =some x):GoodTo l (j+1)↔GoodTo l j/\okN j x/\(us x++usL (l.take j)).Nodup:=by
 have e:l.take (j+1)=l.take j++[x]:=by rw [V7,hx];rfl
 constructor
 ·rintro ⟨h1,h2⟩;rw [e,qF] at h2;exact ⟨⟨λi y hi hy=>h1 i y (by omega) hy,(Vp.1 h2).2.1⟩,h1 j x (by omega) hx,h2⟩
 ·rintro ⟨⟨h1,h2⟩,h3,h4⟩;refine ⟨λi y hi hy=> ?_,by rw [e,qF];exact h4⟩;by_cases hij:i=j
  ·subst hij;rw [hx] at hy;cases hy;exact h3
  ·exact h1 i y (by omega) hy
theorem GoodL_iff (l:List Nd):GoodL l↔GoodTo l l.length/\(∀i:Nat,i+1<l.length->(i:Int)∈usL l)/\l≠[]:=by
 constructor
 ·rintro ⟨h1,h2,h3,h4⟩;exact ⟨⟨λi x _ hx=>h2 i x hx,by rw [U7];exact h3⟩,h4,h1⟩
 ·rintro ⟨⟨h2,h3⟩,h4,h1⟩;rw [U7] at h3;exact ⟨h1,λi x hx=>h2 i x (by have:=(N6.1 hx).1;omega) hx,h3,h4⟩
theorem D4 {l:List Nd} (hl:l.length<=512) (h:¬GoodL l):iZ l=40:=by unfold iZ;rw [if_neg (by omega),if_neg h]
theorem CO {l:List Nd} (hl:l.length<=512) (h:GoodL l):iZ l=0:=by unfold iZ;rw [if_neg (by omega),if_pos h]
section
variable {F:PH}
theorem oo {s:Sl} {l:List Nd} (hs:RdS F s 5 (ft l)):ai prog 144 #[s.v] F λr F'=>r=vi (iZ l)/\F.le F':=by
 have hlen:=hs.nlen;refine On ?_;unfold JP;refine ⟨λh=>⟨?_,aq F⟩,λh=> ?_⟩
 ·have e:iZ l=2:=by unfold iZ;rw [if_pos (by omega)]
  rw [e]
 have hl:l.length<=512:=by omega
 refine cP underlying211 SZ S4 rfl (by omega) (WO _) (by omega) (by omega) ?_;intro u hu;rw [zc1 _ rfl,N4,hlen];have em:(List.replicate l.length (Value.bool false)).toArray=(gT l.length []).toArray:=by
  congr 1;apply VI;intro j;by_cases hj:j<l.length
  ·simp [gT,hj]
  ·rw [VX (by simp;omega),VX (by simp [gT];omega)]
 rw [em];refine ⟨_,rfl,λb3 hb3=> ?_⟩;refine atI ?_;have hne:u≠b3:=λe=>by rw [e,al] at hb3;cases hb3
 have hb3F:F b3=none:=by rwa [av _ _ hne.symm] at hb3
 refine st1 (al _ _ _) (by simp) ?_;rw [bh];have hU:Usd F ((F.set u (.cells (gT l.length []).toArray 4)).set b3 (.cells #[Sl.v ⟨some ⟨u,0,none⟩,l.length,l.length⟩] 211)) b3 u l.length []:=
  ⟨hb3F,hu,aw (ae _ hu) hb3F,hne,al _ _ _,by rw [av _ _ hne];exact al _ _ _⟩
 show ∃(I2:Nat->Ω) (m2:Nat),_;have e0:(#[Value.slice Option.none 0 0]:Γ).setIfInBounds 0 (Sl.v ⟨some ⟨u,0,none⟩,l.length,l.length⟩)= #[Sl.v ⟨some ⟨u,0,none⟩,l.length,l.length⟩]:=rfl;rw [e0];generalize (F.set u (.cells (gT l.length []).toArray 4)).set b3 (.cells #[Sl.v ⟨some ⟨u,0,none⟩,l.length,l.length⟩] 211)=F1 at*;have bad:∀{F':PH},¬GoodL l->F.le F'->vi 40=vi (iZ l)/\F.le F':=λh hl'=>⟨by rw [D4 hl h],hl'⟩;refine ⟨λm i F'=>∃j:Nat,i=j/\j<=l.length/\m=l.length - j/\GoodTo l j/\Usd F F' b3 u l.length (usL (l.take j)),l.length,⟨0,rfl,by omega,rfl,GoodTo.zero l,by simpa [usL] using hU⟩,?_⟩;rintro _ _ F2 ⟨j,rfl,hj,rfl,hg,hW⟩;unfold A6;refine ⟨λhlt=> ?_,λhge=> ?_⟩
 ·have hjl:j<l.length:=by omega
  have hx:l[j]? =some l[j]:=N5 hjl;generalize l[j]=x at hx;obtain ⟨a,ha,hrow⟩:=rdn (hs.le hW.le) hx;refine ⟨a,ha,by omega,by omega,x.arr,rfl,hrow,λb6 hb6=> ?_⟩;refine atI ?_;refine stW (al _ _ _) rfl rfl (jP x) ?_;rw [bh];have hub:u≠b6:=aJ hb6 hW.qu;have hW6:Usd F (F2.set b6 (.cells x.arr 149)) b3 u l.length (usL (l.take j)):=⟨hW.zb,hW.zu,aw hW.le (aT hW.le hb6),hW.ne,by rw [av _ _ (aJ hb6 hW.qb)];exact hW.qb,by rw [av _ _ hub];exact hW.qu⟩;have q6:=al F2 b6 (.cells x.arr 149);generalize F2.set b6 (.cells x.arr 149)=F3 at*;have j4:∀ok:Bool,(ok=true↔(0<=ar x.k/\(x.k=1->0<=x.lo/\x.lo<=x.hi/\x.hi<=255)/\(x.k≠1->x.lo=0/\x.hi=0)))->
    fN (λy2_0 F=>∃m',m'<l.length - j/\∃j:Nat,y2_0=j/\j<=l.length/\m'=l.length - j/\GoodTo l j/\Usd _ F b3 u l.length (usL (l.take j))) s b3 j b6 (ar x.k) ok (λr F'=>r=vi (iZ l)/\PH.le _ F') F3:=λok hok=>by
   refine D3 hW6 q6 (by omega) hub (λhn F' hl'=>bad (λhG=>hn ?_) hl') λhy F' hU'=> ?_
   ·obtain ⟨hgt,_,_⟩:=(GoodL_iff l).1 hG
    have h1:GoodTo l (j+1):=⟨λi y hi hy=>hgt.ok i y (by omega) hy,by
     have:=hgt.nd;rw [U7] at this;have e:usL l=usL (l.drop (j+1))++usL (l.take (j+1))\/True:=.inr trivial;have hsub:∀(p q:List Nd),usL (p++q)=usL q++usL p:=by
      intro p q;induction p with
      |nil=>simp [usL]
      |cons y p ih=>simp [usL,ih]
     rw [<- Wb (j+1) l,hsub] at this
     exact (Vp.1 this).2.1⟩
    obtain ⟨_,h3⟩:=(GoodTo.succ hx).1 h1;obtain ⟨h4,h5,h6⟩:=xf.1 h3;exact ⟨hok.2 h5,h6⟩
   ·refine ⟨l.length - (j+1),by omega,j+1,i6 (by omega),hjl,rfl,?_,?_⟩
    ·exact (GoodTo.succ hx).2 ⟨hg,xf.2 ⟨hg.nd,hok.1 hy.1,hy.2⟩⟩
    ·rw [V7,hx];show Usd F F' b3 u l.length (usL (l.take j++[x]));rw [qF];exact hU'
  have c0:F3.cell (Addr.mk b6 0 none)=some (vi x.k):=by rw [am q6];rfl
  have c1:F3.cell (Addr.mk b6 1 none)=some (vi x.lo):=by rw [am q6];rfl
  have c2:F3.cell (Addr.mk b6 2 none)=some (vi x.hi):=by rw [am q6];rfl
  have a1:x.k=1->ar x.k=0:=λh=>by unfold ar;rw [if_neg (by omega),if_neg (by omega),if_pos (by omega)]
  refine ⟨_,c0,?_⟩;refine (yG _).mono ?_;rintro _ F3' ⟨rfl,e⟩;obtain rfl:=e.symm;refine ⟨_,rfl,_,c0,λh1=>⟨_,c1,λh2=>⟨_,c1,_,c2,λh3=>⟨_,c2,j4 _ ?_⟩,λh3=>j4 _ ?_⟩,λh2=>j4 _ ?_⟩,λh1=>⟨_,c1,λh2=>j4 _ ?_,λh2=>⟨_,c2,λh3=>j4 _ ?_,λh3=>j4 _ ?_⟩⟩⟩
  ·have:=a1 h1;rw [decide_eq_true_eq];exact ⟨λh=>⟨by omega,λ_=>⟨h2,h3,h⟩,λh=>absurd h1 h⟩,λh=>(h.2.1 h1).2.2⟩
  ·exact ⟨λh=>(by cases h),λh=>absurd (h.2.1 h1).2.1 h3⟩
  ·exact ⟨λh=>(by cases h),λh=>absurd (h.2.1 h1).1 h2⟩
  ·exact ⟨λh=>(by cases h),λh=>absurd (h.2.2 h1).1 h2⟩
  ·exact ⟨λh=>(by cases h),λh=>absurd (h.2.2 h1).2 h3⟩
  ·rw [decide_eq_true_eq];exact ⟨λh=>⟨h,λh=>absurd h h1,λ_=>⟨by omega,by omega⟩⟩,λh=>h.1⟩
 ·obtain rfl:j=l.length:=by omega
  rw [U7] at hW;unfold A5;have ew:IntKind.i64.wrap ((s.len:Int) - 1)=(l.length:Int) - 1:=by rw [hlen,aS (by omega) (by omega)]
  refine ⟨λm i F'=>∃j:Nat,i=j/\j<=l.length/\m=l.length - j/\F'=F2/\∀i:Nat,i<j->(i:Int)∈usL l,l.length,⟨0,rfl,by omega,rfl,rfl,λi hi=>by omega⟩,?_⟩;rintro _ _ F3 ⟨j,rfl,hj',rfl,e3,hall⟩;obtain rfl:=e3.symm;unfold A4;rw [ew];refine ⟨λhlt=> ?_,λhge=> ?_⟩
  ·have hjl:j<l.length:=by omega
   have hr:F2.cell ((Addr.mk u 0 none).add (Int.toNat (j:Int)*1))=some (.bool (decide ((j:Int)∈usL l))):=by rw [N4,Vs,show (Addr.mk u 0 none).add j=⟨u,j,none⟩ by simp [Addr.add];omega,am hW.qu];exact tM hjl
   refine ⟨_,by rw [am hW.qb];rfl,_,rfl,by omega,by simp only;omega,_,hr,λhm=>bad (λhG=> ?_) hW.le,λhm=>⟨l.length - (j+1),by omega,j+1,i6 (by omega),hjl,rfl,rfl,λi hi=> ?_⟩⟩
   ·have:=hG.all j (by omega);simp [this] at hm
   ·by_cases hij:i=j
    ·subst hij;simpa using hm
    ·exact hall i (by omega)
  ·unfold A3;refine ⟨λh0=>bad (λhG=>hG.ne (V1.1 (by omega))) hW.le,λh0=>⟨?_,hW.le⟩⟩;rw [CO hl ((GoodL_iff l).2 ⟨hg,λi hi=>hall i (by omega),λe=>by rw [e] at hlen;simp at hlen;omega⟩)]
end
def Par (l:List Nd) (j k:Nat):Prop:=∃x,l[k]? =some x/\(j:Int)∈us x
inductive Up (l:List Nd):Nat->Nat->Prop where
 |refl (j:Nat):Up l j j
 |step {j k m:Nat}:Up l j k->Par l k m->Up l j m
inductive cV (l:List Nd):Nat->Lt->Δ->Prop where
 |emp {i:Nat} {x:Nd}:l[i]? =some x->x.k=0->cV l i .emp [i]
 |rng {i lo hi:Nat} {x:Nd}:l[i]? =some x->x.k=1->x.lo=lo->x.hi=hi->lo<=hi->hi<=255->cV l i (.rng i lo hi) [i]
 |seq {i a b:Nat} {x:Nd} {t u:Lt} {na nb:Δ}:l[i]? =some x->x.k=2->x.a=a->x.b=b->cV l a t na->cV l b u nb->cV l i (.seq t u) (i::na++nb)
 |alt {i a b:Nat} {x:Nd} {t u:Lt} {na nb:Δ}:l[i]? =some x->x.k=3->x.a=a->x.b=b->cV l a t na->cV l b u nb->cV l i (.alt t u) (i::na++nb)
 |rep {i a:Nat} {x:Nd} {t:Lt} {na:Δ}:l[i]? =some x->x.k=4->x.a=a->cV l a t na->cV l i (.rep t) (i::na)
theorem ik {x:Nd} (h:x.k=2\/x.k=3):us x=[x.b,x.a]:=by
 have:ar x.k=2:=by unfold ar;rw [if_neg (by omega),if_pos h]
 unfold us;rw [this];rfl
theorem D5 {x:Nd} (h:x.k=4):us x=[x.a]:=by
 have:ar x.k=1:=by unfold ar;rw [if_pos h]
 unfold us;rw [this];rfl
theorem xg {k:Int} (h:0<=ar k):k=0\/k=1\/k=2\/k=3\/k=4:=by
 unfold ar at h;split at h
 ·omega
 ·split at h
  ·omega
  ·split at h<;>omega
theorem uU {k:Int} (h:k=2\/k=3):ar k=2:=by unfold ar;rw [if_neg (by omega),if_pos h]
theorem D6 {k:Int} (h:k=4):ar k=1:=by unfold ar;rw [if_pos h]
theorem AU {k:Int} (h:k=0\/k=1):ar k=0:=by unfold ar;rw [if_neg (by omega),if_neg (by omega),if_pos h]
section
variable {l:List Nd} (hG:GoodL l)
include hG
theorem AV:∀(n i:Nat),i<n->i<l.length->∃t ns,cV l i t ns:=by
 intro n;induction n with
 |zero=>intro i h;omega
 |succ n ih=>
  intro i hi hl;have hx:=N5 hl;have ho:=hG.ok i _ hx;generalize l[i]=x at hx ho;obtain ⟨h0,h1,h2,h3,h4,h5,h6⟩:=ho;rcases xg h0 with hk|hk|hk|hk|hk
  ·exact ⟨_,_,.emp hx hk⟩
  ·obtain ⟨a,b,c⟩:=h1 hk;exact ⟨_,_,.rng (lo:=x.lo.toNat) (hi:=x.hi.toNat) hx hk (by omega) (by omega) (by omega) (by omega)⟩
  ·have e:=uU (k:=x.k) (.inl hk);obtain ⟨a1,a2⟩:=h5 (by omega);obtain ⟨b1,b2⟩:=h6 (by omega);obtain ⟨t,na,ht⟩:=ih x.a.toNat (by omega) (by omega);obtain ⟨u,nb,hu⟩:=ih x.b.toNat (by omega) (by omega);exact ⟨_,_,.seq hx hk (by omega) (by omega) ht hu⟩
  ·have e:=uU (k:=x.k) (.inr hk);obtain ⟨a1,a2⟩:=h5 (by omega);obtain ⟨b1,b2⟩:=h6 (by omega);obtain ⟨t,na,ht⟩:=ih x.a.toNat (by omega) (by omega);obtain ⟨u,nb,hu⟩:=ih x.b.toNat (by omega) (by omega);exact ⟨_,_,.alt hx hk (by omega) (by omega) ht hu⟩
  ·have e:=D6 (k:=x.k) hk;obtain ⟨a1,a2⟩:=h5 (by omega);obtain ⟨t,na,ht⟩:=ih x.a.toNat (by omega) (by omega);exact ⟨_,_,.rep hx hk (by omega) ht⟩
theorem Par.lt {j k:Nat} (h:Par l j k):j<k/\k<l.length:=by
 obtain ⟨x,hx,hm⟩:=h;have hlt:=(N6.1 hx).1;obtain ⟨h0,h1,h2,h3,h4,h5,h6⟩:=hG.ok k x hx;rcases xg h0 with hk|hk|hk|hk|hk
 ·have e:=AU (k:=x.k) (.inl hk);unfold us at hm;rw [e] at hm;simp at hm
 ·have e:=AU (k:=x.k) (.inr hk);unfold us at hm;rw [e] at hm;simp at hm
 ·have e:=uU (k:=x.k) (.inl hk);rw [ik (.inl hk)] at hm;have:=h5 (by omega);have:=h6 (by omega);simp at hm;omega
 ·have e:=uU (k:=x.k) (.inr hk);rw [ik (.inr hk)] at hm;have:=h5 (by omega);have:=h6 (by omega);simp at hm;omega
 ·have e:=D6 (k:=x.k) hk;rw [D5 hk] at hm;have:=h5 (by omega);simp at hm;omega
omit hG in
theorem uV {j:Int}:∀(l:List Nd) {k:Nat} {x:Nd},l[k]? =some x->j∈us x->j∈usL l
 |y::l,0,x,h,hm=>by simp at h;subst h;simp [usL,hm]
 |y::l,k+1,x,h,hm=>by simp at h;simp only [usL,UX];exact .inl (uV l h hm)
omit hG in
theorem xh {j:Int}:∀(l:List Nd),(usL l).Nodup->∀{k m:Nat} {x y:Nd},l[k]? =some x->l[m]? =some y->j∈us x->j∈us y->k=m
 |z::l,hn,0,0,x,y,h1,h2,h3,h4=>rfl
 |z::l,hn,0,m+1,x,y,h1,h2,h3,h4=>by simp at h1 h2;subst h1;rw [usL] at hn;exact absurd rfl ((Vp.1 hn).2.2 j (uV l h2 h4) j h3)
 |z::l,hn,k+1,0,x,y,h1,h2,h3,h4=>by simp at h1 h2;subst h2;rw [usL] at hn;exact absurd rfl ((Vp.1 hn).2.2 j (uV l h1 h3) j h4)
 |z::l,hn,k+1,m+1,x,y,h1,h2,h3,h4=>by simp at h1 h2;rw [usL] at hn;rw [xh l (Vp.1 hn).1 h1 h2 h3 h4]
theorem Par.uniq {j k m:Nat} (h1:Par l j k) (h2:Par l j m):k=m:=by obtain ⟨x,hx,hm⟩:=h1;obtain ⟨y,hy,hn⟩:=h2;exact xh l hG.nd hx hy hm hn
omit hG in
theorem Up.head {j m:Nat} (h:Up l j m):j=m\/∃k,Par l j k/\Up l k m:=by
 induction h with
 |refl=>exact .inl rfl
 | @step k m h hp ih=>
  rcases ih with rfl|⟨c,h1,h2⟩
  ·exact .inr ⟨m,hp,.refl m⟩
  ·exact .inr ⟨c,h1,h2.step hp⟩
theorem Up.le {j m:Nat} (h:Up l j m):j<=m:=by
 induction h with
 |refl=>exact UW _
 |step _ hp ih=>have:=hp.lt hG;omega
theorem Up.chain {j a b:Nat} (ha:Up l j a) (hb:Up l j b):Up l a b\/Up l b a:=by
 induction ha with
 |refl=>exact .inl hb
 | @step k m h hp ih=>
  rcases ih with h1|h1
  ·rcases h1.head with rfl|⟨c,h2,h3⟩
   ·exact .inr ((Up.refl k).step hp)
   ·rw [h2.uniq hG hp] at h3;exact .inl h3
  ·exact .inr (h1.step hp)
omit hG in
theorem o8 {i:Nat} {t:Lt} {ns:Δ} (h:cV l i t ns):∀j∈ns,Up l j i:=by
 induction h with
 | @emp i x hx hk=>intro j hj;simp at hj;subst hj;exact .refl _
 | @rng i lo hi x hx hk _ _ _ _=>intro j hj;simp at hj;subst hj;exact .refl _
 | @seq i a b x t u na nb hx hk ha hb h1 h2 i1 i2=>
  intro j hj;simp only [VF,UT,UX] at hj;rcases hj with rfl|hj|hj
  ·exact .refl _
  ·exact (i1 j hj).step ⟨x,hx,by rw [ik (.inl hk),ha];simp⟩
  ·exact (i2 j hj).step ⟨x,hx,by rw [ik (.inl hk),hb];simp⟩
 | @alt i a b x t u na nb hx hk ha hb h1 h2 i1 i2=>
  intro j hj;simp only [VF,UT,UX] at hj;rcases hj with rfl|hj|hj
  ·exact .refl _
  ·exact (i1 j hj).step ⟨x,hx,by rw [ik (.inr hk),ha];simp⟩
  ·exact (i2 j hj).step ⟨x,hx,by rw [ik (.inr hk),hb];simp⟩
 | @rep i a x t na hx hk ha h1 i1=>
  intro j hj;simp only [UT] at hj;rcases hj with rfl|hj
  ·exact .refl _
  ·exact (i1 j hj).step ⟨x,hx,by rw [D5 hk,ha];simp⟩
theorem NU {i a b:Nat} {x:Nd} (hx:l[i]? =some x) (hk:x.k=2\/x.k=3) (ha:x.a=a) (hb:x.b=b):a≠b:=by
 intro e;have hn:=hG.nd;have hsub:∀(l:List Nd) (i:Nat),l[i]? =some x->(usL l).Nodup->(us x).Nodup:=by
  intro l;induction l with
  |nil=>intro i h;simp at h
  |cons y l ih=>
   intro i h hn;rw [usL] at hn;cases i with
   |zero=>simp at h;subst h;exact (Vp.1 hn).2.1
   |succ i=>simp at h;exact ih i h (Vp.1 hn).1
 have:=hsub l i hx hn;rw [ik hk,ha,hb,e] at this;simp at this
theorem Jz {i a b j:Nat} {x:Nd} (hx:l[i]? =some x) (hk:x.k=2\/x.k=3) (ha:x.a=a) (hb:x.b=b) (h1:Up l j a) (h2:Up l j b):False:=by
 have pa:Par l a i:=⟨x,hx,by rw [ik hk,ha];simp⟩;have pb:Par l b i:=⟨x,hx,by rw [ik hk,hb];simp⟩;have hne:=NU hG hx hk ha hb;rcases h1.chain hG h2 with h|h
 ·rcases h.head with e|⟨c,h3,h4⟩
  ·exact hne e
  ·rw [h3.uniq hG pa] at h4;have:=h4.le hG;have:=pb.lt hG;omega
 ·rcases h.head with e|⟨c,h3,h4⟩
  ·exact hne e.symm
  ·rw [h3.uniq hG pb] at h4;have:=h4.le hG;have:=pa.lt hG;omega
end
end Go.Proofs.YtcemhghkipgdiaaGreatDoor

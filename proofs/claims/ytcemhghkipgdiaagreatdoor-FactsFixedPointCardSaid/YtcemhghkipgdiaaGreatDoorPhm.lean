/-
  A program logic over partial heaps. Part 8: equality of aggregates, and maps: what lookups and updates do, for keys that are compared like numbers.
-/
import Derived.Test.YtcemhghkipgdiaaGreatDoorPhe
import Derived.Laws.Append
import Derived.Test.YtcemhghkipgdiaaGreatDoorRows
import Derived.WalkKit
import Derived.ProofKit
import Derived.OpenShut
import Derived.SizedLaws
import Derived.Carry
import Derived.Deep.Slices
namespace Go.Proofs.YtcemhghkipgdiaaGreatDoor
open Go.IntKind (i64 u8 u64)
open Go
def atF (F:PH) (K:Ψ):Prop:=K F
theorem atE {F:PH} {K:Ψ} (h:atF F K):K F:=h
theorem atI {F:PH} {K:Ψ} (h:K F):atF F K:=h
section
variable {P:Program} {n:Nat} {Q:Exit->En->Ψ} {E:En} {F:PH} {ops:Array Oper} {l:List Oper} {d:Tmp} {op:Op} {ty:TypeId} {pos:String} {aft:Array Edge} {v:Value} {gd:Option (Nat×Bool)}
theorem vP {t:Nat} (h:E t=v):upd E t v=E:=by
 funext x;unfold upd;by_cases hx:x=t
 ·subst hx;have:Nat.beq x x=true:=by simp
  rw [this];exact h.symm
 ·rw [jY hx];rfl
theorem Da {c:Operand} {x y:Code} (hc:ev E c=.bool true) (h:HC P n x Q E F):HC P n (.cond c x y) Q E F:=oz hc (λ_=>h) (λh=>by cases h)
theorem Db {c:Operand} {x y:Code} (hc:ev E c=.bool false) (h:HC P n y Q E F):HC P n (.cond c x y) Q E F:=oz hc (λh=>by cases h) (λ_=>h)
section
variable {K:En->Ψ}
theorem Iv {place:Nat->Option (Nat×Nat)} {cells r:Γ} {i off:Nat} {v:Value} {rest:List (Nat×Value)} (hp:place i=some (off,1)) (hv:v.cells= #[v]) (ho:Nat.blt off cells.size=true)
  (h:Instr.fill place (cells.setIfInBounds off v) rest=some r):Instr.fill place cells ((i,v)::rest)=some r:=by
 have ho':off<cells.size:=Ua ho;simp only [Instr.fill,hp,hv];simp only [Ud,ST,List.length_nil];rw [if_neg (by simp;omega)];simpa using h
theorem Dc (vs:Ξ):∀(c:Γ) (off k:Nat),(vs.zipIdx k).foldl (λcs (x:Value×Nat)=>cs.setIfInBounds (off+x.2) x.1) c=wr c (off+k) vs:=by
 induction vs with
 |nil=>intro c off k;rfl
 |cons v vs ih=>intro c off k;simp only [List.zipIdx_cons,List.foldl_cons,wr];rw [ih];rfl
theorem Iw {place:Nat->Option (Nat×Nat)} {cells cs r:Γ} {i off s:Nat} {rest:List (Nat×Value)} (hp:place i=some (off,s)) (hs:cs.size=s) (ho:Nat.ble (off+s) cells.size=true)
  (h:Instr.fill place (wr cells off cs.toList) rest=some r):Instr.fill place cells ((i,.agg cs)::rest)=some r:=by
 have ho':off+s<=cells.size:=Ua ho;subst hs;have e:cs.zipIdx.foldl (λcs (x:Value×Nat)=>cs.setIfInBounds (off+x.2) x.1) cells=wr cells off cs.toList:=by have:=Dc cs.toList cells off 0;rw [<- Array.foldl_toList];simpa using this
 unfold Instr.fill;rw [hp];show (if (decide (cs.size≠cs.size) || decide (off+cs.size>cells.size))=true then none else Instr.fill place (cs.zipIdx.foldl (λcs (x:Value×Nat)=>cs.setIfInBounds (off+x.2) x.1) cells) rest)=some r;rw [e,if_neg (by simp;omega)];exact h
theorem ou (z:Γ) (hz:Nat.blt 0 z.size=true):∀n,Builtin.zeroCells z n=((List.replicate n z.toList).flatten).toArray:=by
 have hz':0<z.size:=Ua hz;intro n;apply Array.ext';apply List.ext_getElem
 ·simp [Builtin.zeroCells,List.length_flatten]
 ·intro i h1 h2;simp only [Builtin.zeroCells,Array.toList_map,Array.toList_range,List.getElem_map,List.getElem_range];have key:∀n i (h:i<((List.replicate n z.toList).flatten).length),((List.replicate n z.toList).flatten)[i]=z[i % z.size]! :=by
   intro n;induction n with
   |zero=>intro i h;simp at h
   |succ n ih=>
    intro i h;have e:(List.replicate (n+1) z.toList).flatten=z.toList++(List.replicate n z.toList).flatten:=by simp [List.replicate_succ]
    by_cases hi:i<z.size
    ·have:((List.replicate (n+1) z.toList).flatten)[i]=z.toList[i]'(by simpa using hi):=by simp only [e];rw [List.getElem_append_left]
     rw [this,Nat.mod_eq_of_lt hi];simp [hi]
    ·have hl:i - z.size<((List.replicate n z.toList).flatten).length:=by simp [List.length_flatten,Ue] at h ⊢;omega
     have:((List.replicate (n+1) z.toList).flatten)[i]=((List.replicate n z.toList).flatten)[i - z.size]:=by simp only [e];rw [List.getElem_append_right (by simpa using hi)];simp
     have hm:i % z.size=(i - z.size) % z.size:=Nat.mod_eq_sub_mod (by omega);rw [this,ih _ hl,hm]
  exact (key n i (by simpa using h2)).symm
theorem BG {z:Value} {cs:Γ} {s:Nat} (hs:cs.size=s) (hz:z.cells.size=s) (h0:Nat.blt 0 s=true):Instr.fill (λi=>some (i*s,s)) (Builtin.zeroCells z.cells 1) [(0,.agg cs)]=some cs:=by
 have h1:Nat.blt 0 z.cells.size=true:=by rw [hz];exact h0
 rw [ou _ h1];have e:((List.replicate 1 z.cells.toList).flatten).toArray=z.cells:=by simp
 rw [e];refine Iw (off:=0*s) rfl hs (by rw [hz];simp) ?_;have hw:wr z.cells 0 cs.toList=cs:=by
  apply Array.ext
  ·rw [dJ,hz,hs]
  ·intro i h1 h2;have:=ua cs.toList z.cells 0 i (by simp [hz,hs]);rw [if_pos (by simp;omega)] at this;simp only [TZ] at this;rw [SZ h1] at this;simp at this;rw [SZ h2] at this;exact SY this
 rw [show 0*s=0 by omega,hw];rfl
def FU:Ξ->Prop
 |[]=>True
 |v::l=>v.cells= #[v]/\FU l
def zJ (k:Nat):Ξ->List (Nat×Value)
 |[]=>[]
 |v::l=>(k,v)::zJ (k+1) l
theorem BH:∀(l:Ξ) (k:Nat) (cells:Γ),FU l->k+l.length<=cells.size->Instr.fill (λi=>some (i*1,1)) cells (zJ k l)=some (wr cells k l):=by
 intro l;induction l with
 |nil=>intro k cells _ _;rfl
 |cons v l ih=>intro k cells ho hl;simp only [ST] at hl;refine Iv (off:=k) (by simp) ho.1 (Nat.ble_eq_true_of_le (by omega)) ?_;exact ih (k+1) _ ho.2 (by simp;omega)
theorem FV {z:Value} {l:Ξ} {m:Nat} {cells0:Γ} (hm:l.length=m) (h0:Builtin.zeroCells z.cells m=cells0) (hz:z.cells.size=1) (ho:FU l):Instr.fill (λi=>some (i*1,1)) cells0 (zJ 0 l)=some l.toArray:=by
 subst hm;subst h0;have hs:(Builtin.zeroCells z.cells l.length).size=l.length:=by simp [Builtin.zeroCells,hz]
 rw [BH l 0 _ ho (by rw [hs];omega)];congr 1;apply Array.ext
 ·rw [dJ,hs];simp
 ·intro i h1 h2;have:=ua l (Builtin.zeroCells z.cells l.length) 0 i (by rw [hs];omega);rw [if_pos (by simp at h2;omega)] at this;simp only [TZ] at this;rw [SZ h1] at this;simp at h2;rw [N5 h2] at this;simpa using SY this
end
theorem Iy {x:Operand} {k:IntKind} {i:Int} {m:Nat} (hx:ev E x=.int k i) (h:0<=i):dr (Option.map (ev E) (some x)) m i.toNat:=.inr ⟨k,i,by simp [hx],h,rfl⟩
theorem tY {m:Nat}:dr none m m:=.inl ⟨rfl,rfl⟩
theorem Iz:fM [] F:=λ_ h=>by cases h
theorem IA {i:Nat} {S:World->Prop} {Sp:cg} (h:xZ F S) (hh:fM Sp F):fM ((i,S)::Sp) F:=λr hr=>by
 rcases Sw.1 hr with rfl|hr
 ·exact h
 ·exact hh r hr
theorem IB {tmps:Γ} {t:Nat} {v u:Value} (h:Array.getD tmps t undef=v) (hv:v=u):tmps[t]?.getD undef=u:=by rw [<- TM,h,hv]
theorem Dd {t s:Nat} {dd:TypeDesc} {a:Addr} {cs:Γ} {b:Nat} {e:Ev} {w:World} (st:Sat e w F) (h1:P.underlying t=some dd) (h2:jX dd=true) (h3:tsz P t=some (s,b)) (hs:cs.size=s) (hr:F.row a cs):
  (loadVar t a).run P w=.ok (.agg cs) w:=by
 subst hs;refine oA _ F w _ ?_ st;simp [loadVar,ai,dq h1,h2,bq h3,eO hr]
theorem BI {t:TypeId} {dd:TypeDesc} {a:Addr} {e:Ev} {w:World} (st:Sat e w F) (h1:P.underlying t=some dd) (h2:jX dd=false) (hr:F.cell a=some v):
  (loadVar t a).run P w=.ok v w:=by
 refine oA _ F w _ ?_ st;simp [loadVar,ai,dq h1,h2,load,rdo,hr]
def jV (P:Program) (E:En) (F:PH):ResultVar->Value->Prop
 | .tmp t,v=>E t=v
 | .cell x t,v=>∃a,E x=.pointer (some a)/\∀e w,Sat e w F->(loadVar t a).run P w=.ok v w
theorem tZ {t:Tmp} {v:Value} (hv:E t=v):jV P E F (.tmp t) v:=hv
theorem De {x:Tmp} {t s:Nat} {dd:TypeDesc} {a:Addr} {cs:Γ} {b:Nat} (hx:E x=.pointer (some a)) (h1:P.underlying t=some dd) (h2:jX dd=true) (h3:tsz P t=some (s,b)) (hs:cs.size=s) (hr:F.row a cs):
  jV P E F (.cell x t) (.agg cs):=⟨a,hx,λ_ _ st=>Dd st h1 h2 h3 hs hr⟩
theorem Df {x:Tmp} {t:Nat} {dd:TypeDesc} {a:Addr} {v:Value} (hx:E x=.pointer (some a)) (h1:P.underlying t=some dd) (h2:jX dd=false) (hr:F.cell a=some v):
  jV P E F (.cell x t) v:=⟨a,hx,λ_ _ st=>BI st h1 h2 hr⟩
theorem gj {r:ResultVar} {v:Value} (h:jV P E F r v) {e:Ev} {w:World} {tmps:Γ} (st:Sat e w F) (ht:∀t:Nat,Array.getD tmps t undef=E t):
  (∃t,r=.tmp t/\tmps[t]?.getD undef=v)\/∃x t a,r=.cell x t/\tmps[x]?.getD undef=.pointer (some a)/\(loadVar t a).run P w=.ok v w:=by
 cases r with
 |tmp t=>exact .inl ⟨t,rfl,IB (ht t) h⟩
 |cell x t=>obtain ⟨a,h1,h2⟩:=h;exact .inr ⟨x,t,a,rfl,IB (ht x) h1,h2 e w st⟩
theorem QP {fn:Func} (h:fn.results= #[]):pQ P fn E F (.tuple #[]):=λe w tmps _ _=>by simp [results,h]
theorem M9 {fn:Func} {r:ResultVar} {v:Value} (h:fn.results= #[r]) (hv:jV P E F r v):pQ P fn E F v:=λe w tmps st ht=>by have k:=gj hv st ht;clear ht hv;rcases k with ⟨t,rfl,h1⟩|⟨x,t,a,rfl,h1,h2⟩<;>simp [results,asAddr, *]
theorem Na {fn:Func} {r r':ResultVar} {v v':Value} (h:fn.results= #[r,r']) (hv:jV P E F r v) (hv':jV P E F r' v'):pQ P fn E F (.tuple #[v,v']):=λe w tmps st ht=>by have k:=gj hv st ht;have k':=gj hv' st ht;clear ht hv hv';rcases k with ⟨t,rfl,h1⟩|⟨x,t,a,rfl,h1,h2⟩<;>rcases k' with ⟨t',rfl,h3⟩|⟨x',t',a',rfl,h3,h4⟩<;>simp [results,asAddr, *]
theorem QQ {fn:Func} {r r' r'':ResultVar} {v v' v'':Value} (h:fn.results= #[r,r',r'']) (hv:jV P E F r v) (hv':jV P E F r' v') (hv'':jV P E F r'' v''):pQ P fn E F (.tuple #[v,v',v'']):=λe w tmps st ht=>by have k:=gj hv st ht;have k':=gj hv' st ht;have k'':=gj hv'' st ht;clear ht hv hv' hv'';rcases k with ⟨t,rfl,h1⟩|⟨x,t,a,rfl,h1,h2⟩<;>rcases k' with ⟨t',rfl,h3⟩|⟨x',t',a',rfl,h3,h4⟩<;>rcases k'' with ⟨t'',rfl,h5⟩|⟨x'',t'',a'',rfl,h5,h6⟩<;>simp [results,asAddr, *]
theorem rt1 (fn:Func) (R:Value->Ψ) {t:Tmp} {v:Value} (h1:fn.results= #[.tmp t]) (h2:E t=v) (h:R v F):Gl P fn R .ret E F:=⟨v,M9 h1 (tZ h2),h⟩
theorem rt2 (fn:Func) (R:Value->Ψ) {t t':Tmp} {v v':Value} (h1:fn.results= #[.tmp t,.tmp t']) (h2:E t=v) (h3:E t'=v') (h:R (.tuple #[v,v']) F):Gl P fn R .ret E F:=⟨_,Na h1 (tZ h2) (tZ h3),h⟩
theorem jW {k:IntKind} {x:Int}:ak (.int k x):=⟨(λ_ h=>by cases h),(λ_ h=>by cases h)⟩
theorem Dg {x:Sl}:ak x.v:=⟨(λ_ h=>by cases h),(λ_ h=>by cases h)⟩
end
theorem aq (F:PH):F.le F:=λ_ _ h=>h
theorem aa {F G H:PH} (h:F.le G) (k:G.le H):F.le H:=λb o hb=>k b o (h b o hb)
theorem ae {F:PH} {b:Nat} (o:Obj) (h:F b=none):F.le (F.set b o):=λx o' hx=>by
 unfold PH.set;by_cases hb:x=b
 ·subst hb;rw [h] at hx;cases hx
 ·simp [hb,hx]
theorem aH {F G:PH} (h:F.le G) {a:Addr} {v:Value} (hc:F.cell a=some v):G.cell a=some v:=by
 unfold PH.cell at*;cases hb:F a.block with
 |none=>simp [hb] at hc
 |some o=>rw [h _ _ hb];rw [hb] at hc;exact hc
theorem aQ {F G:PH} (h:F.le G) {b:Nat} (hb:G b=none):F b=none:=by
 cases hf:F b with
 |none=>rfl
 |some o=>rw [h _ _ hf] at hb;cases hb
theorem aG {F:PH} {b c:Nat} {o:Obj} (hb:F b=none) (hc:F c=some o):c≠b:=by intro e;subst e;rw [hb] at hc;cases hc
@[simp] theorem aC (b o i:Nat):Addr.add ⟨b,o,none⟩ i=⟨b,o+i,none⟩:=by unfold Addr.add;split<;>simp_all
@[simp] theorem al (F:PH) (b:Nat) (o:Obj):(F.set b o) b=some o:=by simp [PH.set]
theorem az (F:PH) {b x:Nat} (o:Obj) (h:x≠b):(F.set b o) x=F x:=by simp [PH.set,h]
@[simp] theorem bi (F:PH) (b:Nat) (o o':Obj):(F.set b o).set b o'=F.set b o':=zN F b o o'
theorem am {F:PH} {b i:Nat} {c:Γ} {e:TypeId} {fr:Nat×Nat} (h:F b=some (.cells c e fr)):F.cell ⟨b,i,none⟩=c[i]? :=by simp [PH.cell,h]
@[simp] theorem IC (F:PH) (b i:Nat) (c:Γ) (e:TypeId) (fr:Nat×Nat):(F.set b (.cells c e fr)).cell ⟨b,i,none⟩=c[i]? :=by simp [PH.cell]
def cI (fp:Nat->Prop) (F G:PH):Prop:=∀b o,F b=some o->¬fp b->G b=some o
theorem cI.refl (fp:Nat->Prop) (F:PH):cI fp F F:=λ_ _ h _=>h
theorem cI.trans {fp:Nat->Prop} {F G H:PH} (h:cI fp F G) (k:cI fp G H):cI fp F H:=λb o hb hn=>k b o (h b o hb hn) hn
theorem cI.of_le {fp:Nat->Prop} {F G:PH} (h:F.le G):cI fp F G:=λb o hb _=>h b o hb
theorem cI.set {fp:Nat->Prop} {F:PH} {b:Nat} (o:Obj) (h:fp b\/F b=none):cI fp F (F.set b o):=λx o' hx hn=>by
 by_cases hb:x=b
 ·subst hb;rcases h with h|h
  ·exact absurd h hn
  ·rw [h] at hx;cases hx
 ·rw [az F o hb];exact hx
structure RdS (F:PH) (s:Sl) (size:Nat) (vs:Ξ):Prop where
 len:vs.length=s.len*size
 cap:s.len<=s.cap
 cells:0<s.len->∃b o,s.base=some ⟨b,o,none⟩/\∀i,(h:i<vs.length)->F.cell ⟨b,o+i,none⟩=some vs[i]
theorem RdS.le {F G:PH} {s:Sl} {size:Nat} {vs:Ξ} (h:RdS F s size vs) (hl:F.le G):RdS G s size vs:=
 ⟨h.len,h.cap,λhp=>by
  obtain ⟨b,o,h1,h2⟩:=h.cells hp
  exact ⟨b,o,h1,λi hi=>aH hl (h2 i hi)⟩⟩
theorem RdS.nil (F:PH) (size:Nat):RdS F Sl.nil size []:=⟨by simp [Sl.nil],by simp [Sl.nil],by simp [Sl.nil]⟩
theorem RdS.new {F:PH} {b n cap size:Nat} {c:Γ} {e:TypeId} {fr:Nat×Nat} {vs:Ξ} (h:F b=some (.cells c e fr)) (hv:c.toList.take (n*size)=vs) (hl:vs.length=n*size) (hc:n<=cap):
  RdS F ⟨some ⟨b,0,none⟩,n,cap⟩ size vs:=⟨hl,hc,λ_=>⟨b,0,rfl,λi hi=>by
   rw [am h];subst hv
   simp at hi ⊢⟩⟩
theorem RdS.row {F:PH} {s:Sl} {size:Nat} {vs:Ξ} (h:RdS F s size vs) {a:Addr} (ha:s.base=some a) (k:Nat) (cs:Γ) (hk:cs.toList=(vs.drop k).take cs.size):F.row (a.add k) cs:=by
 intro i hi;have hlen:k+i<vs.length:=by have:=congrArg List.length hk;rw [SR,List.length_drop,SH] at this;omega
 have hp:0<s.len:=by
  rcases TW s.len with h0|h0
  ·have:=h.len;rw [h0,TN] at this;omega
  ·exact h0
 obtain ⟨b,o,h1,h2⟩:=h.cells hp;rw [ha] at h1;cases h1;simp only [aC];rw [Nat.add_assoc,h2 (k+i) hlen];have e1:cs.toList[i]? =some cs[i]:=by simp [hi]
 rw [hk,Tq hi,List.getElem?_drop,N5 hlen] at e1;exact e1
theorem RdS.cell {F:PH} {s:Sl} {vs:Ξ} (h:RdS F s 1 vs) {a:Addr} (ha:s.base=some a) {i:Nat} (hi:i<vs.length):F.cell (a.add i)=some vs[i]:=by
 have hp:0<s.len:=by have:=h.len;omega
 obtain ⟨b,o,h1,h2⟩:=h.cells hp;rw [ha] at h1;cases h1;simp only [aC];exact h2 i hi
theorem RdS.cut {F:PH} {s:Sl} {size:Nat} {vs:Ξ} (h:RdS F s size vs) {l r m:Nat} (h1:l<=r) (h2:r<=s.len) (h3:r<=m):RdS F (s.cut size l r m) size ((vs.drop (l*size)).take ((r - l)*size)):=by
 have hle:(r - l)*size<=s.len*size - l*size:=by rw [<- Nat.sub_mul];exact TJ _ (by omega)
 refine ⟨by rw [SR,List.length_drop,h.len];simp only [Sl.cut];omega,by simp only [Sl.cut];omega,λhp=> ?_⟩;simp only [Sl.cut] at hp ⊢;obtain ⟨b,o,h4,h5⟩:=h.cells (by omega);have hm:¬m=l:=by omega
 refine ⟨b,o+l*size,by simp [hm,h4],λi hi=> ?_⟩;simp only [SR,List.length_drop] at hi;rw [Nat.add_assoc,h5 (l*size+i) (by omega)];simp [List.getElem_take,List.getElem_drop]
theorem kH {P:Program} {n:Nat} {F:PH} {Q:Unit->Ψ} (h:Q () F):aD P (askRoom n) F Q:=by
 unfold askRoom;split
 ·exact h
 ·exact h
theorem dh {P:Program} {t e size bytes:Nat} {z:Value} {n c:Int} {k k':IntKind} {F:PH} {Q:Value->Ψ} (ht:P.underlying t=some (.slice e)) (hs:tsz P e=some (size,bytes)) (hz:bP P e=some z) (hzs:z.cells.size=size)
  (h0:0<=n) (hnc:n<=c) (hc:(bytes:Int)*c<=281474976710656) (hc63:c<=9223372036854775807)
  (h:∀b,F b=none->Q (Sl.v ⟨some ⟨b,0,none⟩,n.toNat,c.toNat⟩) (F.set b (.cells (Builtin.zeroCells z.cells c.toNat) e))):
  aD P (Instr.makeSlice t (.int k n) (.int k' c)) F Q:=by
 obtain ⟨i,hi,hti⟩:=fj hs;have e1:i64.wrap n=n:=aO (by omega) (by omega);have e2:i64.wrap c=c:=aO (by omega) (by omega);simp only [Instr.makeSlice,aA,bR ht,asInt,asIntOf,aJ,hti,hi,e1,e2];have hc0:0<=c:=by omega
 have g1:decide (c<0)=false:=by simpa using hc0
 have g2:decide ((bytes:Int)*c>2 ^ 48)=false:=by simp;omega
 have g3:decide (n<0)=false:=by simpa using h0
 have g4:decide (n>c)=false:=by simp;omega
 simp only [g1,g2,g3,g4,Ur,S9,if_false,aA];refine kH ?_;simp only [eV hs];have fin:∀zz:Γ,(Array.range (c.toNat*size)).map (λi=>zz[i % zz.size]!)=Builtin.zeroCells z.cells c.toNat->
   aD P (do let a <- newRow e ((Array.range (c.toNat*size)).map (λi=>zz[i % zz.size]!));pure (Value.slice (some a) n.toNat c.toNat)) F Q:=by
  intro zz hzz;rw [hzz];simp only [newRow,newObj,aA,aD,aJ];exact h
 by_cases hn0:c.toNat*size=0
 ·simp only [hn0,if_true];have:=fin #[] (by simp [Builtin.zeroCells,hn0,hzs]);simp only [hn0] at this;exact this
 ·simp only [if_neg hn0,aA,d8 hz,aJ];exact fin z.cells (by simp [Builtin.zeroCells,hzs])
theorem ij {P:Program} {F:PH} {s:Sl} {size n:Nat} {vs:Ξ} {Q:Γ->Ψ} (h:RdS F s size vs) (hn:n<=s.len) (hq:Q (vs.take (n*size)).toArray F):aD P (Builtin.firstCells size n s.v) F Q:=by
 obtain ⟨base,len,cap⟩:=s;cases base with
 |none=>
  have h0:len=0:=by
   rcases TW len with h0|h0
   ·exact h0
   ·obtain ⟨b,o,h1,_⟩:=h.cells h0;cases h1
  have hn0:n=0:=by simp only at hn;omega
  have:=h.len;simp only [h0,TN,TK] at this;subst this;simpa [Sl.v,Builtin.firstCells] using hq
 |some a=>
  simp only [Sl.v,Builtin.firstCells];have hlen:(vs.take (n*size)).toArray.size=n*size:=by have h1:=h.len;have h2:n*size<=len*size:=TJ _ hn;simp only at h1;rw [Ud,SR,h1];omega
  refine gC _ _ _ _ ?_ hq;have key:F.row a (vs.take (n*size)).toArray->rdo P (loadCells a (n*size)) F (vs.take (n*size)).toArray:=λhr=>by have:=eO (P:=P) hr;rw [hlen] at this;exact this
  refine key ?_;by_cases hz:n*size=0
  ·intro i hi;rw [hlen,hz] at hi;omega
  ·have:=h.row (a:=a) rfl 0 (vs.take (n*size)).toArray (by rw [hlen];simp);simpa [Addr.add] using this
theorem iS {P:Program} {F:PH} {s x:Sl} {t e size bytes ty:Nat} {z:Value} {olds news:Ξ} {Q:Value->Ψ} (ht:P.underlying t=some (.slice e)) (hsz:tsz P e=some (size,bytes)) (hz:bP P e=some z) (_:z.cells.size=size)
  (ho:RdS F s size olds) (hn:RdS F x size news) (hst:∀v∈news,ak v) (hfit:(s.len+x.len)*bytes<=140737488355328) (hlen:s.len+x.len<=9223372036854775807)
  (h0:x.len*size=0->s.len+x.len<=s.cap->Q (Sl.v ⟨s.base,s.len+x.len,s.cap⟩) F)
  (h1:0<x.len*size->s.len+x.len<=s.cap->∃b o c e',s.base=some ⟨b,o,none⟩/\F b=some (.cells c e' (0,0))/\o+s.len*size+x.len*size<=c.size/\
   Q (Sl.v ⟨s.base,s.len+x.len,s.cap⟩) (F.set b (.cells (wr c (o+s.len*size) news) e')))
  (h2:s.cap<s.len+x.len->∀cap b,s.len+x.len<=cap->F b=none->Q (Sl.v ⟨some ⟨b,0,none⟩,s.len+x.len,cap⟩) (F.set b (.cells (olds.toArray++news.toArray++Builtin.zeroCells z.cells (cap - (s.len+x.len))) e))):
  aD P (Builtin.append_ #[t,t] ty #[s.v,x.v]) F Q:=by
 have hnl:=hn.len;have hol:=ho.len;have hfn:∀Q',Q' news.toArray F->aD P (Builtin.firstCells size x.len x.v) F Q':=λQ' hq=>ij hn (SC _) (by rw [<- hnl,SK];exact hq);have hfo:∀Q',Q' olds.toArray F->aD P (Builtin.firstCells size s.len s.v) F Q':=λQ' hq=>ij ho (SC _) (by rw [<- hol,SK];exact hq);obtain ⟨base,len,cap⟩:=s;obtain ⟨xb,xl,xc⟩:=x;simp only [Builtin.append_,aA,Sl.v,List.getElem?_toArray,List.getElem?_cons_zero,Tu,bR ht,Builtin.lenOf,aJ,eV hsz,S9,if_false,Bool.not_false,if_true] at*;obtain ⟨i,hib,hti⟩:=fj hsz;by_cases hroom:len+xl<=cap
 ·rw [if_pos hroom];simp only [aA];refine hfn _ ?_;by_cases hz0:xl*size=0
  ·have hnil:news=[]:=SU (by rw [hnl,hz0]);cases base with
   |none=>exact h0 hz0 hroom
   |some a=>simp only [hnil,storeCells,aA,aJ];exact h0 hz0 hroom
  ·obtain ⟨b,o,c,e',g1,g2,g3,g4⟩:=h1 (by omega) hroom;cases g1;simp only [aA];refine ff news 0 F _ c _ (by simp) (by simpa using g2) (by simp only [aC];rw [hnl];omega) hst (λhnn=>hz0 (by rw [<- hnl,hnn];rfl)) ?_;simpa using g4
 ·rw [if_neg hroom];simp only [aA,hti]
  rw [if_neg (by
   rintro ⟨ha,hb⟩;have:(i64.max:Int)=9223372036854775807:=by decide
   rw [this] at ha
   omega)]
  have hg:=growslice_fits (need:=len+xl) (old:=cap) (bytes:=bytes) (by omega) hfit;simp only [aA,hti];rw [if_neg (by rw [hib];omega)];simp only [aA,choose];unfold aD;rw [if_neg (by simp [Question.forced])];intro tt;simp only [aD,hti];refine kH ?_;refine hfo _ ?_;refine hfn _ ?_;simp only [d8 hz,newRow,newObj,aA,aD,aJ];intro b hb;exact h2 (by omega) _ b (by simp only [Question.cut];omega) hb
end Go.Proofs.YtcemhghkipgdiaaGreatDoor
namespace Go.Proofs.YtcemhghkipgdiaaGreatDoor
open Go.IntKind (i64 u8 u64)
open Go Go.ChangeShapes Go.WideShapes Go.ChangeAt Go.RowKit
def hF (W:World):PH:=λb=>W.heap[b]?
theorem zK {W:World} {a:Addr} {v:Value} (h:W.cell? a=some v):(hF W).cell a=some v:=h
theorem rB {P:Program} {f:FuncId} {args:Γ} {W:World} (h:aj P f args (hF W) λv F'=>v=.bool true/\(hF W).le F'):
  Calls P f args W λe W'=>e=.returned (.bool true)/\Below W.heap.size W W':=by
 refine (h ⟨W.os,W.tape,W.output,λ_=>Option.none⟩ W ⟨rfl,rfl,rfl,λb o hb=>hb,λb o hb=>(by cases hb)⟩).mono ?_;rintro e W' ⟨v,F',rfl,hs,rfl,hle⟩;have key:∀(k:Nat) (o:Obj),W.heap[k]? =some o->W'.heap[k]? =some o:=λk o hk=>hs.heap k o (hle k o hk);refine ⟨rfl,hs.os,hs.tape,hs.output,?_,λk hk=> ?_⟩
 ·rcases TW W.heap.size with h0|h0
  ·omega
  ·have h1:=key (W.heap.size - 1) _ (SZ (by omega));have h2:=(Array.getElem?_eq_some_iff.1 h1).1;omega
 ·rw [SZ hk];exact key k _ (SZ hk)
section
variable {H:Type} {enc:TypeId×Value->H} {P:Program} {W W':World}
theorem jG (hl:laidOutB P=true) {sp:Nat->Bool} (hb:Below W.heap.size W W'):∀{ts:List TypeId} {vs:Ξ} {ds:List (DataW H)} {ps:List MemPlace},
  ts.all (λt=>P.readableRec t && decide (t<P.types.size))=true->DataW.TrodAll enc P W 0 (λ_=>true) true ts vs ds ps->(∀x∈ps,x.block<W.heap.size)->(∀x∈ps,sp x.block=true)->DataW.TrodAll enc P W' 0 sp true ts vs ds ps
 |[],vs,ds,ps,_,h,_,_=>by obtain ⟨rfl,rfl,rfl⟩:=trodAll_nil h;rfl
 |t::ts,vs,ds,ps,ha,h,hlt,hsp=>by
  obtain ⟨v,vs',d,ds',p,q,rfl,rfl,rfl,h1,h2⟩:=trodAll_cons h;rw [Uh,Tj,Tj,decide_eq_true_eq] at ha;obtain ⟨⟨hr,hrow⟩,ha⟩:=ha
  exact ⟨p,q,WideElems.Trod_stays hl hr hrow h1 (λx hx=>hb.same (hlt x (Uf _ hx))) (λx hx=>hsp x (Uf _ hx)),
   jG hl hb ha h2 (λx hx=>hlt x (List.mem_append_right _ hx)) (λx hx=>hsp x (List.mem_append_right _ hx)),rfl⟩
theorem BJ {f:Func} {s:ChangeSpec} {args:Γ} {ds gs:List (DataW H)} {before:List MemPlace} {tb:TypeId} {fresh:Bool}
  (hl:laidOutB P=true) (hv:s.vars=[]) (hW:DataW.Whole enc P f.params.toList s.vars false W args.toList ds gs before) (hall:f.params.toList.all (λt=>P.readableRec t && decide (t<P.types.size))=true)
  (hr:f.resultTypes= #[tb]) (htb:P.underlying tb=some .bool) (hb:Below W.heap.size W W')
  (hs:s.fn H (ds++gs)={results:=[.lit (.bool true)],args:=ds}):
  s.post enc P f false fresh false false W args (.bool true) W':=by
 have hW':=hW;obtain ⟨p,q,hA,hV,rfl,_,_⟩:=hW;rw [hv] at hV;obtain ⟨rfl,rfl⟩:=trodVars_none hV;have hlt:∀x∈p,x.block<W.heap.size:=λx hx=>by simpa using hW'.lt x (Uf _ hx)
 refine ⟨ds,[],p++[],[],p,[],hW',?_,?_,?_,hb.frame _,λh=>by cases h⟩
 ·rw [hs,hr];exact trodAll_cons_mk (shut_bool htb _) trodAll_mk0
 ·rw [hs];exact jG hl hb hall hA hlt (λx hx=>by simpa using hlt x hx)
 ·rw [hs,hv];rfl
end
set_option maxRecDepth 10000
def bt (f:Nat->Bool):Nat->Nat
 |0=>0
 |n+1=>2 ^ n*(if f n then 1 else 0)+bt f n
theorem pM (f:Nat->Bool):∀n,bt f n<2 ^ n
 |0=>by simp [bt]
 |n+1=>by have:=pM f n;unfold bt;rw [Nat.pow_succ];split<;>omega
theorem t4 (f:Nat->Bool):∀n j,(bt f n).testBit j=(decide (j<n) && f j)
 |0,j=>by simp [bt]
 |n+1,j=>by
  unfold bt;rw [TB _ (pM f n)];split
  ·rename_i h;rw [t4 f n j];simp [h,show j<n+1 by omega]
  ·rename_i h;by_cases hj:j=n
   ·subst hj;cases f j<;>simp
   ·have:j - n≠0:=by omega
    rw [show decide (j<n+1)=false by simp;omega];split
    ·have:=Uj (n:=0) (m:=j - n);rw [Nat.pow_zero] at this;rw [this];simp;omega
    ·simp
theorem sk {x n:Nat} {f:Nat->Bool} (hx:x<2 ^ n) (h:∀j,j<n->x.testBit j=f j):x=bt f n:=
 Nat.eq_of_testBit_eq λj=>by
  rw [t4];by_cases hj:j<n
  ·rw [h j hj];simp [hj]
  ·rw [Nat.testBit_lt_two_pow (Nat.lt_of_lt_of_le hx (Ti (by omega) (by omega)))];simp [hj]
theorem Dh {n:Nat} {f g:Nat->Bool} (h:∀j,j<n->f j=g j):bt f n=bt g n:=
 sk (pM f n) λj hj=>by rw [t4,h j hj];simp [hj]
def wd (P:Nat->Bool) (k:Nat):Nat:=bt (λj=>P (64*k+j)) 64
theorem nj (P:Nat->Bool) (k:Nat):wd P k<18446744073709551616:=pM _ 64
theorem gS (P:Nat->Bool) (k:Nat) {j:Nat} (hj:j<64):(wd P k).testBit j=P (64*k+j):=by unfold wd;rw [t4];simp [hj]
theorem t5 (k:Nat):wd (λ_=>false) k=0:=(sk (x:=0) (by decide) λj _=>by simp).symm
theorem Nc (P Q:Nat->Bool) (k:Nat):wd (λi=>P i || Q i) k=wd P k ||| wd Q k:=
 (sk (x:=wd P k ||| wd Q k) (Nat.or_lt_two_pow (pM _ 64) (pM _ 64)) λj hj=>by rw [Nat.testBit_or,gS P k hj,gS Q k hj]).symm
theorem Ke (P Q:Nat->Bool) (k:Nat):wd (λi=>P i && Q i) k=wd P k &&& wd Q k:=
 (sk (x:=wd P k &&& wd Q k) (Nat.and_lt_two_pow _ (pM _ 64)) λj hj=>by rw [Nat.testBit_and,gS P k hj,gS Q k hj]).symm
theorem gT {P:Nat->Bool} {k:Nat}:wd P k=0↔∀j,j<64->P (64*k+j)=false:=by
 constructor
 ·intro h j hj;have:=gS P k hj;rw [h] at this;simpa using this.symm
 ·intro h;exact (sk (x:=0) (by decide) λj hj=>by rw [h j hj];simp).symm
theorem kI {x:Int} (h1:0<=x) (h2:x<18446744073709551616):u64.wrap x=x:=by unfold IntKind.wrap;simp only [IntKind.bits,IntKind.signed];simp only [Bool.false_and,S9,if_false];omega
theorem zM {a:Nat} (h:a<18446744073709551616):(BitVec.ofInt (u64).bits (a:Int)).toNat=a:=by
 rw [BitVec.toNat_ofInt];show ((a:Int) % ((2 ^ 64:Nat):Int)).toNat=a;have:((2 ^ 64:Nat):Int)=18446744073709551616:=by decide
 rw [this];omega
theorem Di {a b:Nat} (ha:a<18446744073709551616) (hb:b<18446744073709551616):u64.wrap ((BitVec.ofInt (u64).bits (a:Int) ||| BitVec.ofInt (u64).bits (b:Int)).toNat)=((a ||| b:Nat):Int):=by rw [BitVec.toNat_or,zM ha,zM hb];have:a ||| b<2 ^ 64:=Nat.or_lt_two_pow ha hb;exact kI (by omega) (by omega)
theorem t6 {a b:Nat} (ha:a<18446744073709551616) (hb:b<18446744073709551616):u64.wrap ((BitVec.ofInt (u64).bits (a:Int) &&& BitVec.ofInt (u64).bits (b:Int)).toNat)=((a &&& b:Nat):Int):=by rw [BitVec.toNat_and,zM ha,zM hb];have:a &&& b<2 ^ 64:=Nat.and_lt_two_pow _ hb;exact kI (by omega) (by omega)
def Low (x t:Nat):Prop:=∃m,x=2 ^ (t+1)*m+2 ^ t
theorem Low.of {x t:Nat} (h1:x.testBit t=true) (h2:∀j,j<t->x.testBit j=false):Low x t:=by
 refine ⟨x / 2 ^ (t+1),Nat.eq_of_testBit_eq λj=> ?_⟩;rw [TB _ (Nat.pow_lt_pow_right (by omega) (by omega))];split
 ·rename_i h;rw [Uj];by_cases hj:j=t
  ·subst hj;rw [h1];simp
  ·rw [h2 j (by omega)];simp;omega
 ·rw [Nat.testBit_div_two_pow];congr 1;omega
theorem Low.pos {x t:Nat} (h:Low x t):0<x:=by obtain ⟨m,rfl⟩:=h;have:=Nat.two_pow_pos t;omega
theorem Low.clear {x t:Nat} (h:Low x t) (j:Nat):(x &&& (x - 1)).testBit j=(x.testBit j && decide (j≠t)):=by
 obtain ⟨m,rfl⟩:=h;have hp:=Nat.two_pow_pos t;have e:2 ^ (t+1)*m+2 ^ t - 1=2 ^ (t+1)*m+(2 ^ t - 1):=by omega
 have l1:2 ^ t<2 ^ (t+1):=Nat.pow_lt_pow_right (by omega) (by omega);rw [e,Nat.testBit_and,TB _ l1,TB _ (by omega)];split
 ·rw [Uj,Nat.testBit_two_pow_sub_one];by_cases hj:t=j
  ·subst hj;simp
  ·simp [hj]
 ·rename_i h;rw [Bool.and_self];simp;omega
theorem Low.neg {x t:Nat} (h:Low x t) (hx:x<2 ^ 64):x &&& (2 ^ 64 - x)=2 ^ t:=by
 have ht:t<64:=by
  rcases Nat.lt_or_ge t 64 with h1|h1
  ·exact h1
  ·obtain ⟨m,rfl⟩:=h;have:=Ti (n:=2) (by omega) h1;omega
 obtain ⟨m,rfl⟩:=h;have hp:=Nat.two_pow_pos t;have l1:2 ^ t<2 ^ (t+1):=Nat.pow_lt_pow_right (by omega) (by omega);have e64:(2:Nat) ^ 64=2 ^ (t+1)*2 ^ (63 - t):=by rw [<- Nat.pow_add];congr 1;omega
 have hm:m<2 ^ (63 - t):=by
  rcases Nat.lt_or_ge m (2 ^ (63 - t)) with h1|h1
  ·exact h1
  ·have:=Nat.mul_le_mul_left (2 ^ (t+1)) h1;omega
 have e:2 ^ 64 - (2 ^ (t+1)*m+2 ^ t)=2 ^ (t+1)*(2 ^ (63 - t) - (m+1))+2 ^ t:=by
  have h2:2 ^ (t+1)=2 ^ t+2 ^ t:=by rw [Nat.pow_succ];omega
  have:2 ^ (t+1)*(2 ^ (63 - t) - (m+1))=2 ^ (t+1)*2 ^ (63 - t) - 2 ^ (t+1)*(m+1):=Nat.mul_sub _ _ _;rw [this,<- e64,Nat.mul_add,Tb];have:2 ^ (t+1)*m+2 ^ (t+1)<=2 ^ 64:=by rw [e64];have:=Nat.mul_le_mul_left (2 ^ (t+1)) (show m+1<=2 ^ (63 - t) by omega);rw [Nat.mul_add,Tb] at this;exact this
  omega
 rw [e];refine Nat.eq_of_testBit_eq λj=> ?_;rw [Nat.testBit_and,TB _ l1,TB _ l1,Uj];split
 ·rw [Bool.and_self]
 ·rename_i h;rw [Nat.testBit_two_pow_sub_succ hm];have:decide (t=j)=false:=by simp;omega
  rw [this];cases m.testBit (j - (t+1))<;>simp
def vQ:Δ:=[0,1,56,2,57,49,28,3,61,58,42,50,38,29,17,4,62,47,59,36,45,43,51,22,53,39,33,30,24,18,12,5,63,55,48,27,60,41,37,16,46,35,44,21,52,32,23,11,54,26,40,15,34,20,31,10,25,14,19,9,13,8,7,6]
theorem Nf:∀t,t<64->(2 ^ t*285870213051353865 % 18446744073709551616) / 288230376151711744<64/\vQ[(2 ^ t*285870213051353865 % 18446744073709551616) / 288230376151711744]? =some t:=by decide
section
variable {P:Program} {F:PH} {E:En} {o:Oper} {x y:Operand} {t t':TypeId}
theorem nk {op:BinOp} {c d:Γ} (h:P.eqGuardType P.depth t=false):rdo P (eqGuard op t x y (.agg c) (.agg d)) F ():=by cases op<;>simp [eqGuard,program,ai,rdo,h]
theorem FW {c d:Γ} {r:Bool} (ho:o.op=.binOp .eql t x y t') (hx:ev E x=.agg c) (hy:ev E y=.agg d) (hg:P.eqGuardType P.depth t=false) (he:rdo P (Op.equal t (.agg c) (.agg d)) F r):
  RD P E F o (.bool r):=ow ho hx hy (nk hg) he rfl
theorem FX {c d:Γ} {r:Bool} (ho:o.op=.binOp .neq t x y t') (hx:ev E x=.agg c) (hy:ev E y=.agg d) (hg:P.eqGuardType P.depth t=false) (he:rdo P (Op.equal t (.agg c) (.agg d)) F r):
  RD P E F o (.bool (!r)):=ox ho hx hy (nk hg) he rfl
end
section
end
section
variable {K:Type} [DecidableEq K]
structure nq (P:Program) (kt:TypeId) (enc:K->Value):Prop where
 eq:∀F a b,rdo P (Op.equal kt (enc a) (enc b)) F (decide (a=b))
 chk:∀F e a,rdo P (Instr.checkKey e 10000 kt (enc a)) F ()
 same:∀a,Instr.sameBits 10000 (enc a) (enc a)=true
 kind:∃d,P.underlying kt=some d/\((∀a b,Instr.sameNow d (enc a) (enc b)=some (decide (a=b)))\/∀a b,Instr.sameNow d (enc a) (enc b)=none)
structure fL (P:Program) (mt:TypeId) (enc:K->Value) (z:Value):Prop where
 ex:∃kt e,P.underlying mt=some (.map kt e)/\bP P e=some z/\nq P kt enc
def lk (k:K):List (K×Value)->Option Value
 |[]=>none
 |p::r=>if k=p.1 then some p.2 else lk k r
def fnd (k:K):List (K×Value)->Nat->Option (Nat×Value)
 |[],_=>none
 |p::r,i=>if k=p.1 then some (i,p.2) else fnd k r (i+1)
def upL (k:K) (v:Value):List (K×Value)->List (K×Value)
 |[]=>[(k,v)]
 |p::r=>if k=p.1 then (k,v)::r else p::upL k v r
theorem xK (k k':K) (v:Value):∀(L:List (K×Value)),lk k' (upL k v L)=if k'=k then some v else lk k' L
 |[]=>rfl
 |p::r=>by
  unfold upL;split
  ·rename_i h;simp only [lk];split
   ·rfl
   ·rename_i hn;rw [if_neg (by rw [<- h];exact hn)]
  ·rename_i h;simp only [lk,xK k k' v r];split
   ·rename_i h2;rw [if_neg (by rintro rfl;exact h h2)]
   ·rfl
theorem kJ (k:K) (v:Value):∀(L:List (K×Value)) (i:Nat),fnd k L i=none->lk k L=none/\upL k v L=L++[(k,v)]
 |[],_,_=>⟨rfl,rfl⟩
 |p::r,i,h=>by
  unfold fnd at h;split at h
  ·cases h
  ·rename_i hn;obtain ⟨h1,h2⟩:=kJ k v r _ h;exact ⟨by unfold lk;rw [if_neg hn,h1],by unfold upL;rw [if_neg hn,h2];rfl⟩
theorem kK (k:K) (v:Value):∀(L:List (K×Value)) (i j:Nat) (w:Value),fnd k L i=some (j,w)->∃d,j=i+d/\d<L.length/\L[d]? =some (k,w)/\lk k L=some w/\upL k v L=L.set d (k,v)
 |[],_,_,_,h=>by cases h
 |p::r,i,j,w,h=>by
  unfold fnd at h;split at h
  ·rename_i hp;cases h;refine ⟨0,rfl,by simp,?_,by unfold lk;rw [if_pos hp],by unfold upL;rw [if_pos hp];rfl⟩;subst hp;rfl
  ·rename_i hn;obtain ⟨d,h1,h2,h3,h4,h5⟩:=kK k v r _ _ _ h;exact ⟨d+1,by omega,by simp only [ST];omega,by simpa using h3,by unfold lk;rw [if_neg hn,h4],by unfold upL;rw [if_neg hn,h5];rfl⟩
def dY (enc:K->Value) (m:K->Option Value) (o:Obj):Prop:=
 ∃(es:Array MapEntry) (c:Nat) (L:List (K×Value)),o=.map es c/\es.toList.map (λe=>(e.key,e.val))=L.map (λp=>(enc p.1,p.2))/\∀k,m k=lk k L
theorem dY.empty (enc:K->Value):dY enc (λ_=>none) (.map #[] 0):=⟨#[],0,[],rfl,rfl,λ_=>rfl⟩
theorem dY.not_cells {enc:K->Value} {m:K->Option Value} {o:Obj} (h:dY enc m o):∀c e fr,o≠.cells c e fr:=by obtain ⟨es,c,L,rfl,_⟩:=h;intro c e fr h;cases h
variable {P:Program} {F:PH} {kt mt:TypeId} {enc:K->Value} {z:Value}
theorem iT (hk:nq P kt enc) (k:K):∀(es:List MapEntry) (L:List (K×Value)) (i:Nat),es.map (λe=>(e.key,e.val))=L.map (λp=>(enc p.1,p.2))->
  rdo P (Instr.findAsking kt (enc k) es i) F (fnd k L i)
 |[],[],_,_=>rfl
 |[],_::_,_,h=>by cases h
 |_::_,[],_,h=>by cases h
 |e::es,p::L,i,h=>by
  simp only [S4,List.cons.injEq,Us] at h;obtain ⟨⟨h1,h2⟩,h3⟩:=h;simp only [Instr.findAsking,ai];refine ⟨_,by rw [h1];exact hk.eq F k p.1,?_⟩;unfold fnd;by_cases hp:k=p.1
  ·simp [hp,h2]
  ·simpa [hp] using iT hk k es L (i+1) h3
theorem pN {d:TypeDesc} (hs:∀a b,Instr.sameNow d (enc a) (enc b)=some (decide (a=b))) (k:K):∀(es:List MapEntry) (L:List (K×Value)) (i:Nat),es.map (λe=>(e.key,e.val))=L.map (λp=>(enc p.1,p.2))->
  Instr.findNow d (enc k) es i=some (fnd k L i)
 |[],[],_,_=>rfl
 |[],_::_,_,h=>by cases h
 |_::_,[],_,h=>by cases h
 |e::es,p::L,i,h=>by
  simp only [S4,List.cons.injEq,Us] at h;obtain ⟨⟨h1,h2⟩,h3⟩:=h;simp only [Instr.findNow,h1,hs];unfold fnd;by_cases hp:k=p.1
  ·simp [hp,h2]
  ·simpa [hp] using pN hs k es L (i+1) h3
theorem fY (hk:nq P kt enc) (k:K) (es:List MapEntry) (L:List (K×Value)) (h:es.map (λe=>(e.key,e.val))=L.map (λp=>(enc p.1,p.2))):
  rdo P (Instr.findKey kt (enc k) es) F (fnd k L 0):=by
 obtain ⟨d,hd,hs⟩:=hk.kind;unfold Instr.findKey;simp only [ai];refine ⟨d,(av hd _).2 rfl,?_⟩;rcases hs with hs|hs
 ·rw [pN hs k es L 0 h];rfl
 ·cases es with
  |nil=>
   cases L with
   |nil=>rfl
   |cons _ _=>cases h
  |cons e es=>
   cases L with
   |nil=>cases h
   |cons p L=>
    have h1:e.key=enc p.1:=by simp only [S4,List.cons.injEq,Us] at h;exact h.1.1
    have:Instr.findNow d (enc k) (e::es) 0=none:=by simp only [Instr.findNow,h1,hs]
    rw [this];exact iT hk k _ _ 0 h
theorem bE (hm:fL P mt enc z) {r:Nat} {o:Obj} {m:K->Option Value} (hr:F r=some o) (ho:dY enc m o) (k:K) (ok:Bool):
  rdo P (Instr.lookup mt (.map (some r)) (enc k) ok) F (if ok then .tuple #[(m k).getD z,.bool (m k).isSome] else (m k).getD z):=by
 obtain ⟨kt,e,h1,h2,hk⟩:=hm.ex;have hnc:=ho.not_cells;obtain ⟨es,c,L,rfl,h3,h4⟩:=ho;have hf:=λw=>kK k w L 0;have hn:=kJ k z L 0;unfold Instr.lookup;simp only [ai];refine ⟨_,(av h1 _).2 rfl,?_⟩;simp only [ai];refine ⟨_,⟨_,hr,hnc,rfl⟩,?_⟩;simp only [ai];refine ⟨es,rfl,(),hk.chk F _ k,?_⟩;cases hfd:fnd k L 0 with
 |none=>refine ⟨_,fY hk k _ _ h3,?_⟩;rw [hfd];simp only [ai];refine ⟨z,(gl h2 _).2 rfl,_,rfl,?_⟩;rw [h4,(hn hfd).1];rfl
 |some q=>obtain ⟨j,v⟩:=q;obtain ⟨d,_,_,_,h5,_⟩:=hf z j v hfd;refine ⟨_,fY hk k _ _ h3,?_⟩;rw [hfd];simp only [ai];refine ⟨_,rfl,?_⟩;rw [h4,h5];rfl
theorem aR (hm:fL P mt enc z) {r:Nat} {o:Obj} {m:K->Option Value} (hr:F r=some o) (ho:dY enc m o) (k:K) (v:Value) {Q:Unit->Ψ}
  (h:∀o',dY enc (λk'=>if k'=k then some v else m k') o'->Q () (F.set r o')):aD P (Instr.mapUpdate mt (.map (some r)) (enc k) v) F Q:=by
 obtain ⟨kt,e,h1,h2,hk⟩:=hm.ex;have hnc:=ho.not_cells;obtain ⟨es,c,L,rfl,h3,h4⟩:=ho;have hf:=kK k v L 0;have hn:=kJ k v L 0;unfold Instr.mapUpdate;simp only [aA,bR h1];refine ⟨_,hr,hnc,?_⟩;rw [show (Sem.pure (Obj.map es c):Sem Obj)=pure (Obj.map es c) from rfl];simp only [aJ,aA];refine gC _ _ _ _ (hk.chk F _ k) ?_;refine gC _ _ _ _ (fY hk k _ _ h3) ?_;have hmm:∀k',(if k'=k then some v else m k')=lk k' (upL k v L):=λk'=>by rw [xK,h4]
 cases hfd:fnd k L 0 with
 |none=>refine ⟨_,hr,hnc,h _ ⟨_,_,upL k v L,rfl,?_,hmm⟩⟩;rw [(hn hfd).2];simp [h3]
 |some q=>
  obtain ⟨j,w⟩:=q;obtain ⟨d,hj,hd,h5,h6,h7⟩:=hf j w hfd;obtain rfl:j=d:=by omega
  have hlen:es.size=L.length:=by simpa using congrArg List.length h3
  have hkey:(es[j]?.map (·.key)).getD (enc k)=enc k:=by
   have:=congrArg (λl=>l[j]?) h3;simp only [SQ,h5,Tt] at this;have hj2:j<es.size:=by omega
   simp [hj2] at this ⊢;exact this.1
  simp only [aA,hkey,Instr.keyThatStays,hk.same,if_true,aJ];refine ⟨_,hr,hnc,h _ ⟨_,_,upL k v L,rfl,?_,hmm⟩⟩;rw [h7];apply TD;intro i;have h3i:=congrArg (λl=>l[i]?) h3;simp only [SQ] at h3i;simp only [Array.toList_modify,SQ,T2,Ug];by_cases hi:j=i
  ·subst hi;have hj2:j<es.toList.length:=by simpa [hlen] using hd
   rw [N5 hj2];simp [hd]
  ·simp only [hi,if_false];simpa using h3i
end
end Go.Proofs.YtcemhghkipgdiaaGreatDoor

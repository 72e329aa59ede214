/-
  The codec that writes: numbers, counts, strings, lists.
-/
import Derived.Test.YtenpmjhnhepfdaaGreatDoorHi
namespace Go.Proofs.YtenpmjhnhepfdaaGreatDoor
open Go.IntKind (i64 u8 u64)
open Go Go.Proofs.Tryz
set_option maxRecDepth 10000
section
end
section
end
structure Sm (g:Gr):Prop where
 c:g.conds.length<=1000000000
 n:g.fam.1.length<=1000000000
 t:g.toks.length<=1000000000
 s:g.nons.length<=1000000000
 p:g.prods.length<=1000000000
 l:g.lvs.length<=1000000000
 f:g.fils.length<=1000000000
 ti:∀x∈g.toks,x.pat.length<=1000000000/\x.cond.1.length<=1000000000
 pi:∀x∈g.prods,x.right.length<=1000000000/\x.cond.1.length<=1000000000/\x.lay.length<=1000000000
 li:∀x∈g.lvs,x.ps.length<=1000000000/\x.cond.1.length<=1000000000
 fi:∀x∈g.fils,x.toks.length<=1000000000/\x.cond.1.length<=1000000000
structure SlT (t e:TypeId) (n bytes:Nat) (z:Value):Prop where
 ht:prog.underlying t=some (.slice e)
 hsz:tsz prog e=some (n,bytes)
 hz:bC prog e=some z
 hzs:z.cells.size=n
 hn:0<n
 hb:bytes<=250
theorem A7 {n m b:Nat} (hb:b<=250) (h:n+m<=500000000000):(n+m)*b<=140737488355328:=
 X1 (Nat.mul_le_mul h hb) (by decide)
theorem St.appAt {G F:PH} {As:List (Ψ)} {t e n bytes:Nat} {z:Value} (T:SlT t e n bytes z) {s x:Sl} {olds news:Ξ} {ty:TypeId} (h:St G F As) (i:Nat) (hi:As[i]? =some (own s e n olds)) (hx:RdS F x n news) (hst:∀v∈news,ai v)
  (hlen:s.len+x.len<=500000000000) {K:Sl->Ψ} (k:∀s' F',St G F' (As.set i (own s' e n (olds++news)))->s'.len=s.len+x.len->K s' F'):
  aG prog (Builtin.append_ #[t,t] ty #[s.v,x.v]) F λv F=>∃s':Sl,v=Sl.v s'/\K s' F:=by
 obtain ⟨H,a1,a2,a3,a4⟩:=h.set (A':=own s e n olds) hi;have ho:=(h.ownAt hi).1;by_cases h0:x.len=0
 ·have hnil:news=[]:=XO (by rw [hx.len,h0,YR]);subst hnil;refine od T.ht T.hsz T.hz T.hzs ho hx h0 (by have:=A7 (n:=s.len) (m:=0) T.hb (by omega);simpa using this) (by omega) ⟨s,rfl,k s F ?_ (by omega)⟩;rw [Ye];exact a4 H F a1 (λb hb=> .inl hb) a3 (λb o hb _=>hb)
 ·refine q0 T.ht T.hsz T.hz T.hzs T.hn ho hx (by omega) hst (A7 T.hb hlen) (by omega) ?_;rintro s' F' b ob rfl ho' hl' hbase hb;obtain ⟨H,a1,a2,a3,a4⟩:=h.set (A':=own s' e n (olds++news)) hi;have hb':H b≠none\/F b=none:=by
   rcases hb with ⟨a,ha,rfl⟩|hb
   ·obtain ⟨cur,hc⟩:=bj.elem a1 ha;exact .inl (by rw [hc];simp)
   ·exact .inr hb
  refine ⟨s',rfl,k s' _ ?_ hl'⟩;refine a4 (PH.set (λ_=>none) b ob) _ (ho'.keep λa ha=>by rw [hbase a ha,aq,aq]) (λx hx=> ?_) (λx p hx=> ?_) (λx p hx hn=> ?_)
  ·by_cases e:x=b
   ·rw [e];exact hb'
   ·rw [aC _ _ e] at hx;exact absurd rfl hx
  ·by_cases e:x=b
   ·rw [e,aq] at hx ⊢;exact hx
   ·rw [aC _ _ e] at hx;cases hx
  ·have e:x≠b:=λe=>by
    subst e;rcases hb' with h|h
    ·exact h hn
    ·rw [h] at hx;cases hx
   rw [aC _ _ e];exact hx
namespace St
section
variable {G F:PH} {As:List (Ψ)} {t e n bytes:Nat} {z:Value}
theorem pinOwn {s:Sl} {vs:Ξ} (h:St G F (own s e n vs::As)) {K:Ψ} (k:∀G',G.le G'->RdS G' s n vs->St G' F As->K F):K F:=by obtain ⟨G',h1,⟨H,hA,hH⟩,h2⟩:=h.pin;exact k G' h1 ((bj.rd hA).le hH) h2
theorem app0 (T:SlT t e n bytes z) {s x:Sl} {olds news:Ξ} {ty:TypeId} (h:St G F (own s e n olds::As)) (hx:RdS F x n news) (hst:∀v∈news,ai v) (hlen:s.len+x.len<=500000000000) {K:Sl->Ψ}
  (k:∀s' F',St G F' (own s' e n (olds++news)::As)->s'.len=s.len+x.len->K s' F'):
  aG prog (Builtin.append_ #[t,t] ty #[s.v,x.v]) F λv F=>∃s':Sl,v=Sl.v s'/\K s' F:=h.appAt T 0 rfl hx hst hlen k
theorem push0 (T:SlT t e n bytes z) {s:Sl} {olds:Ξ} {c:Γ} {ty:TypeId} (h:St G F (own s e n olds::As)) (hc:c.size=n) (hst:∀v∈c.toList,ai v) (hlen:s.len<=400000000000) {K:Sl->Ψ}
  (k:∀s' G' F',G.le G'->St G' F' (own s' e n (olds++c.toList)::As)->s'.len=s.len+1->K s' F'):
  ∀b,F b=none->atF (F.set b (.cells c e)) λF=>aG prog (Builtin.append_ #[t,t] ty #[s.v,Sl.v (Sl.mk (some (Addr.mk b 0 none)) 1 1)]) F λv F=>∃s':Sl,v=Sl.v s'/\K s' F:=by
 refine h.newG λb G' F' l q _ h=> ?_;have hx:RdS F' (Sl.mk (some (Addr.mk b 0 none)) 1 1) n c.toList:=RdS.new (h.le _ _ q) (XK (by rw [XN,hc,Y3];exact XA _)) (by rw [XN,hc,Y3]) (XA _);exact h.app0 T hx hst (by show s.len+1<=_;omega) λs' F'' h' hl'=>k s' G' F'' l h' hl'
theorem app1 {p0:Ψ} (T:SlT t e n bytes z) {s x:Sl} {olds news:Ξ} {ty:TypeId} (h:St G F (p0::own s e n olds::As)) (hx:RdS F x n news) (hst:∀v∈news,ai v) (hlen:s.len+x.len<=500000000000) {K:Sl->Ψ}
  (k:∀s' F',St G F' (p0::own s' e n (olds++news)::As)->s'.len=s.len+x.len->K s' F'):
  aG prog (Builtin.append_ #[t,t] ty #[s.v,x.v]) F λv F=>∃s':Sl,v=Sl.v s'/\K s' F:=h.appAt T 1 rfl hx hst hlen k
theorem push1 {p0:Ψ} (T:SlT t e n bytes z) {s:Sl} {olds:Ξ} {c:Γ} {ty:TypeId} (h:St G F (p0::own s e n olds::As)) (hc:c.size=n) (hst:∀v∈c.toList,ai v) (hlen:s.len<=400000000000) {K:Sl->Ψ}
  (k:∀s' G' F',G.le G'->St G' F' (p0::own s' e n (olds++c.toList)::As)->s'.len=s.len+1->K s' F'):
  ∀b,F b=none->atF (F.set b (.cells c e)) λF=>aG prog (Builtin.append_ #[t,t] ty #[s.v,Sl.v (Sl.mk (some (Addr.mk b 0 none)) 1 1)]) F λv F=>∃s':Sl,v=Sl.v s'/\K s' F:=by
 refine h.newG λb G' F' l q _ h=> ?_;have hx:RdS F' (Sl.mk (some (Addr.mk b 0 none)) 1 1) n c.toList:=RdS.new (h.le _ _ q) (XK (by rw [XN,hc,Y3];exact XA _)) (by rw [XN,hc,Y3]) (XA _);exact h.app1 T hx hst (by show s.len+1<=_;omega) λs' F'' h' hl'=>k s' G' F'' l h' hl'
theorem app2 {p0 p1:Ψ} (T:SlT t e n bytes z) {s x:Sl} {olds news:Ξ} {ty:TypeId} (h:St G F (p0::p1::own s e n olds::As)) (hx:RdS F x n news) (hst:∀v∈news,ai v) (hlen:s.len+x.len<=500000000000) {K:Sl->Ψ}
  (k:∀s' F',St G F' (p0::p1::own s' e n (olds++news)::As)->s'.len=s.len+x.len->K s' F'):
  aG prog (Builtin.append_ #[t,t] ty #[s.v,x.v]) F λv F=>∃s':Sl,v=Sl.v s'/\K s' F:=h.appAt T 2 rfl hx hst hlen k
theorem push2 {p0 p1:Ψ} (T:SlT t e n bytes z) {s:Sl} {olds:Ξ} {c:Γ} {ty:TypeId} (h:St G F (p0::p1::own s e n olds::As)) (hc:c.size=n) (hst:∀v∈c.toList,ai v) (hlen:s.len<=400000000000) {K:Sl->Ψ}
  (k:∀s' G' F',G.le G'->St G' F' (p0::p1::own s' e n (olds++c.toList)::As)->s'.len=s.len+1->K s' F'):
  ∀b,F b=none->atF (F.set b (.cells c e)) λF=>aG prog (Builtin.append_ #[t,t] ty #[s.v,Sl.v (Sl.mk (some (Addr.mk b 0 none)) 1 1)]) F λv F=>∃s':Sl,v=Sl.v s'/\K s' F:=by
 refine h.newG λb G' F' l q _ h=> ?_;have hx:RdS F' (Sl.mk (some (Addr.mk b 0 none)) 1 1) n c.toList:=RdS.new (h.le _ _ q) (XK (by rw [XN,hc,Y3];exact XA _)) (by rw [XN,hc,Y3]) (XA _);exact h.app2 T hx hst (by show s.len+1<=_;omega) λs' F'' h' hl'=>k s' G' F'' l h' hl'
end
end St
section
end
theorem FE:SlT 30 9 1 16 (.string ⟨#[]⟩):=⟨underlying30,sz9,zr9,rfl,by decide,by decide⟩
theorem xh:SlT 70 3 1 8 (.int .i64 0):=⟨underlying70,sz3,zr3,rfl,by decide,by decide⟩
theorem QE:∃b z,SlT 77 97 5 b z:=⟨_,_,underlying77,WG,WO,rfl,by decide,by decide⟩
theorem JD:∃b z,SlT 62 69 2 b z:=⟨_,_,underlying62,WC,WJ,rfl,by decide,by decide⟩
theorem QF:∃b z,SlT 63 101 3 b z:=⟨_,_,underlying63,S7,S8,rfl,by decide,by decide⟩
theorem FF:∃b z,SlT 34 79 7 b z:=⟨_,_,underlying34,WF,WN,rfl,by decide,by decide⟩
theorem D0:∃b z,SlT 35 67 13 b z:=⟨_,_,underlying35,WB,WI,rfl,by decide,by decide⟩
theorem JE:∃b z,SlT 36 72 4 b z:=⟨_,_,underlying36,WD,WL,rfl,by decide,by decide⟩
theorem JF:∃b z,SlT 37 74 9 b z:=⟨_,_,underlying37,WE,WM,rfl,by decide,by decide⟩
theorem Wb:SlT 57 54 1 8 (.int .u64 0):=⟨underlying57,WA,WH,rfl,by decide,by decide⟩
section
end
end Go.Proofs.YtenpmjhnhepfdaaGreatDoor
namespace Go.Proofs.YtenpmjhnhepfdaaGreatDoor
open Go.IntKind (i64 u8 u64)
open Go Go.Proofs.Tryz Tr
set_option maxRecDepth 10000
def gr0:Gr:=⟨[],([],0),[],[],[],0,[],[]⟩
theorem GV.zero (F:PH):GV F #[.slice none 0 0,.slice none 0 0,.int .i64 0,.slice none 0 0,.slice none 0 0,.slice none 0 0,.int .i64 0,.slice none 0 0,.slice none 0 0] gr0:=
 ⟨Sl.nil,Sl.nil,Sl.nil,Sl.nil,Sl.nil,Sl.nil,Sl.nil,rfl,RL.nil F,RL.nil F,RL.nil F,RL.nil F,RL.nil F,RL.nil F,RL.nil F⟩
abbrev gJ (c n t s p l f:Sl) (root start:Int):Γ:= #[c.v,n.v,vi root,t.v,s.v,p.v,vi start,l.v,f.v]
section
end
instance (t:Tr):Decidable (t=leaf false):=match t with
 |leaf true=>isFalse (by simp)
 |leaf false=>isTrue rfl
 |node _ _ _=>isFalse (by simp)
noncomputable def fa:Nat->Tr->Nat->Δ
 |0,t,a=>if t=leaf false then [] else [a]
 |n+1,t,a=>if t=leaf false then [] else fa n (fx n false t) a++fa n (fx n true t) (a+2 ^ n)
theorem eC (n a:Nat):fa n (leaf false) a=[]:=by cases n<;>simp [fa]
theorem co {n:Nat} {b:Bool}:∀(t:Tr),t.ok->dq (n+1) t->dq n (fx n b t)
 |leaf x,_,_=>by rw [jH];trivial
 |node v l h,hk,⟨b0,b1,b2⟩=>by
  have hf:=u7 (w:=n) (b:=b) hk;obtain ⟨h0,h1,h2,h3,h4,h5⟩:=hk;rw [hf];split
  ·split
   ·exact co h h5 b2
   ·exact co l h4 b1
  ·exact yd (by omega) (co l h4 b1) (co h h5 b2)
theorem oJ (c i:Nat):cfg (c:Int) i=c.testBit i:=by simp [cfg]
theorem JG {n c:Nat} (h:c<2 ^ n):(cfg (c:Int)).set n false=cfg (c:Int):=by
 funext i;unfold Cf.set;split
 ·rename_i e;subst e;rw [oJ,YK h]
 ·rfl
theorem FG {n c:Nat} (h:c<2 ^ n):(cfg (c:Int)).set n true=cfg ((2 ^ n+c:Nat):Int):=by
 funext i;unfold Cf.set;split
 ·rename_i e;subst e;rw [oJ,Nat.testBit_two_pow_add_eq,YK h];rfl
 ·rename_i e;rw [oJ,oJ];by_cases hi:i<n
  ·rw [Nat.testBit_two_pow_add_gt hi]
  ·have h1:2 ^ n+c<2 ^ i:=by have:2 ^ (n+1)<=2 ^ i:=X0 (by decide) (by omega);rw [YJ] at this;omega
   rw [YK h1,YK (by omega)]
theorem lj:∀(n:Nat) (t:Tr),t.ok->dq n t->∀a,fa n t a=((List.range (2 ^ n)).filter λc=>t.ev (cfg (c:Nat))).map (a+ ·)
 |0,t,_,hb,a=>by
  cases t with
  |node v l h=>exact absurd hb.1 (by omega)
  |leaf x=>
   cases x
   ·rw [eC];simp [Tr.ev]
   ·simp [fa,Tr.ev,List.range_succ]
 |n+1,t,hk,hb,a=>by
  by_cases ht:t=leaf false
  ·subst ht;rw [eC];simp [Tr.ev]
  ·rw [fa,if_neg ht];obtain ⟨k0,_,e0⟩:=du n false hk;obtain ⟨k1,_,e1⟩:=du n true hk;rw [lj n _ k0 (co t hk hb),lj n _ k1 (co t hk hb)];rw [show 2 ^ (n+1)=2 ^ n+2 ^ n by rw [YJ];omega,List.range_add,List.filter_append,XP];congr 1
   ·congr 1;apply List.filter_congr;intro c hc;rw [e0,JG (Yu.1 hc)]
   ·rw [List.filter_map,List.map_map];have:((λc=>t.ev (cfg (c:Nat)))∘λx=>2 ^ n+x)=λc=>t.ev (cfg ((2 ^ n+c:Nat):Int)):=rfl;rw [this];have hf:(List.range (2 ^ n)).filter (λc=>(fx n true t).ev (cfg (c:Nat)))=(List.range (2 ^ n)).filter λc=>t.ev (cfg ((2 ^ n+c:Nat):Int)):=by apply List.filter_congr;intro c hc;rw [e1,FG (Yu.1 hc)]
    rw [hf];apply Y6;intro c _;simp only [Function.comp_apply];omega
theorem tL (n:Nat) (t:Tr) (hk:t.ok) (hb:dq n t) (a:Nat):(fa n t a).length<=2 ^ n:=by rw [lj n t hk hb,XH];exact X1 (List.length_filter_le _ _) (by simp)
theorem D1 {d:Dia} {n:Nat} (h:iN d n):∃t:Tr,t.ok/\d=dia t/\tre d=t/\(aO t).length<=4096/\dq n t:=by
 obtain ⟨h1,h2⟩:=h;unfold chk at h1;split at h1
 ·cases h1
 ·rename_i hl;split at h1
  ·rename_i hv;obtain ⟨t,ht,rfl⟩:=hv;refine ⟨t,ht,rfl,u0 ht,by simpa [dia,aQ] using hl,?_⟩;refine qD (cT ht) (λx hx=> ?_) t (cH ht);obtain ⟨_,v,l,r,rfl,_,_⟩:=(cT ht).mem x hx;have:=h2 (br (aO t) (node v l r)) (X3.2 ⟨_,hx,rfl⟩);simp only [br] at this;simp only [top];omega
  ·cases h1
abbrev vC (c:Nat):Value:=.int .u64 (c:Int)
theorem yP:aB prog 91=true:=by kernel_rfl
theorem FH {t:Tr} (hk:t.ok) (hl:(aO t).length<=4096) {n:Nat} (hn:n<64) (b:Bool):sU (dia t) (n:Int) b=(dia (fx n b t),0):=by have h1:=Bp hk hl;have h2:=ni (w:=n) (b:=b) hk;unfold sU;rw [if_neg (λh=>h h1),if_neg (by omega),u0 hk,N5];unfold lim;rw [if_neg (by simp only [dia,aQ];omega)]
theorem D2 {G0:PH} {b3 b6 b7:Nat} {most:Int} (h3:G0.cell ⟨b3,0,none⟩=some (vi most)) (h7:G0.cell ⟨b7,0,none⟩=some (.func (.func 91) #[] #[.pointer (some ⟨b6,0,none⟩),.pointer (some ⟨b3,0,none⟩),.pointer (some ⟨b7,0,none⟩)])):
  ∀(n:Nat),n<=30->∀(t:Tr) (above:Nat) (out:Δ) (G F:PH) (s:Sl) (v:Γ),t.ok->(aO t).length<=4096->dq n t->above % 2 ^ n=0->above+2 ^ n<=2 ^ 63->G0.le G->DV G v (dia t)->(out.length:Int)<=most->out.length+2 ^ n<=2 ^ 31->
   St G F [own s 54 1 (out.map vC),pt b6 (.cells #[s.v] 57)]->
   ae prog 91 #[.agg v,vi n,.int .u64 above,.pointer (some ⟨b6,0,none⟩),.pointer (some ⟨b3,0,none⟩),.pointer (some ⟨b7,0,none⟩)] F
    λr F'=>∃G' s',r=.bool (decide ((out.length+(fa n t above).length:Nat)<=most))/\G.le G'/\St G' F' [own s' 54 1 (((out++fa n t above).take most.toNat).map vC),pt b6 (.cells #[s'.v] 57)]:=by
 intro n;induction n with
 |zero=>
  intro _ t above out G F s v hk hl hb ha ha2 l0 hd hm hlen h;obtain ⟨sn,rfl,hn⟩:=hd;refine TA ?_;unfold PP;refine h.newG λb F1 F2 l1 q1 _ h=>⟨_,ld (h.le _ _ q1) rfl,λh0=> ?_,λh0=>⟨λ_=> ?_,λh=>absurd rfl h⟩⟩
  ·have e:t=leaf false:=xv.1 (Int.natCast_eq_zero.1 h0);subst e;refine ⟨F1,s,?_,l1,?_⟩
   ·rw [eC,decide_eq_true (by simpa using hm)]
   ·rw [eC,Ye,XK (by omega)];exact h
  ·have e:t≠leaf false:=λe=>h0 (by rw [e];rfl);have ee:fa 0 t above=[above]:=by rw [fa,if_neg e]
   have hsl:s.len=out.length:=by have:=(h.ownAt (i:=0) rfl).1.rd.len;simp at this;exact this.symm
   refine ⟨_,rfl,_,h.ld1 rfl,_,rfl,_,au (aa l0 (aa l1 h.le)) h3,λh1=> ?_,λh1=>⟨_,h.ld1 rfl,?_⟩⟩
   ·refine ⟨F1,s,?_,l1,?_⟩
    ·rw [ee,decide_eq_false (by simp only [XJ];omega)]
    ·rw [ee,XW (by omega),XK (by omega)];exact h
   ·refine h.push0 Wb (c:= #[vC above]) rfl (by simp [ai]) (by omega) λs' G3 F3 l3 h hl'=> ?_;refine h.set1 (w':= #[s'.v]) (by simp) rfl λF4 h=>⟨G3,s',?_,aa l1 l3,?_⟩
    ·rw [ee,decide_eq_true (by simp only [XJ];omega)]
    ·rw [ee,XK (by simp;omega),XP];exact h
 |succ n ih=>
  intro hn30 t above out G F s v hk hl hb ha ha2 l0 hd hm hlen h;have hd0:=hd;obtain ⟨sn,rfl,hn⟩:=hd;refine TA ?_;unfold PP;refine h.newG λb F1 F2 l1 q1 _ h=>⟨_,ld (h.le _ _ q1) rfl,λh0=> ?_,λh0=>⟨λh=>by omega,λ_=>⟨_,rfl,aj (h.le _ _ q1),?_⟩⟩⟩
  ·have e:t=leaf false:=xv.1 (Int.natCast_eq_zero.1 h0);subst e;refine ⟨F1,s,?_,l1,?_⟩
   ·rw [eC,decide_eq_true (by simpa using hm)]
   ·rw [eC,Ye,XK (by omega)];exact h
  ·have e:t≠leaf false:=λe=>h0 (by rw [e];rfl);have ee:fa (n+1) t above=fa n (fx n false t) above++fa n (fx n true t) (above+2 ^ n):=by rw [fa,if_neg e]
   have ew:i64.wrap (((n+1:Nat):Int) - 1)=(n:Int):=by rw [aH (by omega) (by omega)];omega
   rw [ew];have hp:2 ^ (n+1)=2 ^ n+2 ^ n:=by rw [YJ];omega
   have hm2:above % 2 ^ n=0:=by have:2 ^ n ∣ 2 ^ (n+1):=⟨2,by rw [YJ]⟩;rw [<- Nat.mod_mod_of_dvd above this,ha,Nat.zero_mod]
   have hor:above ||| 2 ^ n=above+2 ^ n:=by obtain ⟨q,hq⟩:2 ^ (n+1) ∣ above:=Nat.dvd_of_mod_eq_zero ha;rw [hq,Nat.mul_comm,<- Nat.shiftLeft_eq,<- Nat.shiftLeft_add_eq_or_of_lt (by omega)]
   have rs:∀(x:Bool) {G:PH},F1.le G->ae prog 92 #[.agg #[sn.v,vi (dia t).2],vi n,.bool x] G λr F'=>(∃w,r=.tuple #[.agg w,vi 0]/\DV F' w (dia (fx n x t)))/\G.le F':=λx {G} l=>by have:=sV (hd0.le (aa l1 l)) (n:Int) x;rw [FH hk hl (by omega)] at this;exact this.mono λr F' ⟨⟨w,h1,h2⟩,h3⟩=>⟨⟨w,h1,h2⟩,h3⟩
   refine h.run (rs false (am F1)) λr G3 F3 hr l3 h=> ?_;obtain ⟨w,rfl,hw⟩:=hr;refine ⟨_,_,rfl,?_⟩;refine h.var hw.st (λb10 G4 F4 l4 q10 h=> ?_) (by rfl) hw.size;refine ⟨_,rfl,aj (h.le _ _ (l4 _ _ (l3 _ _ q1))),?_⟩;refine h.run (rs true (aa l3 l4)) λr G5 F5 hr l5 h=> ?_;obtain ⟨u,rfl,hu⟩:=hr;refine ⟨_,_,rfl,?_⟩;refine h.var hu.st (λb12 G6 F6 l6 q12 h=> ?_) (by rfl) hu.size;have l16:=aa l3 (aa l4 (aa l5 l6));obtain ⟨k0,_,_⟩:=du n false hk;obtain ⟨k1,_,_⟩:=du n true hk;have s0:=ni (w:=n) (b:=false) hk;have s1:=ni (w:=n) (b:=true) hk;have b0:=co (b:=false) t hk hb;have b1:=co (b:=true) t hk hb;have en0:=tL n _ k0 b0 above;have en1:=tL n _ k1 b1 (above+2 ^ n);have l06:=aa l0 (aa l1 l16);refine ⟨_,rfl,_,au (aa l06 h.le) h7,w,hw.size,aj (h.le _ _ (l6 _ _ (l5 _ _ q10))),_,_,_,rfl,yP,?_⟩;refine (ih (by omega) (fx n false t) above out G6 F6 s w k0 (by omega) b0 hm2 (by omega) l06 (hw.le (aa l4 (aa l5 l6))) hm (by omega) h).mono ?_;rintro _ F7 ⟨G7,s7,rfl,l7,h⟩;refine ⟨_,rfl,λht=> ?_,λht=> ?_⟩
   ·have ht:=of_decide_eq_true ht;rw [XK (by rw [N3];omega)] at h;have hbit:=OK (x:=above) (v:=n) (by omega) (by omega);refine ⟨_,au (aa l06 (aa l7 h.le)) h7,u,hu.size,aj (h.le _ _ (l7 _ _ q12)),by omega,_,_,_,rfl,yP,?_⟩;rw [hbit,hor];refine (ih (by omega) (fx n true t) (above+2 ^ n) (out++fa n (fx n false t) above) G7 F7 s7 u k1 (by omega) b1 (by rw [Nat.add_mod_right];exact hm2) (by omega) (aa l06 l7) (hu.le (aa l6 l7)) (by rw [N3];exact ht) (by rw [N3];omega) h).mono ?_;rintro _ F8 ⟨G8,s8,rfl,l8,h⟩;refine ⟨_,rfl,G8,s8,?_,aa l1 (aa l16 (aa l7 l8)),?_⟩
    ·congr 1;rw [ee,N3,N3,Y4]
    ·rw [ee,<- Xz];exact h
   ·have ht:=of_decide_eq_false ht;refine ⟨G7,s7,?_,aa l1 (aa l16 l7),?_⟩
    ·rw [ee,decide_eq_false (by rw [N3];omega)]
    ·rw [ee,<- Xz,XW (by rw [N3];omega)];exact h
noncomputable def D3 (g:Gr):Δ:=(List.range (2 ^ g.conds.length)).filter λc=>(tre g.fam).ev (cfg (c:Nat))
noncomputable def j7 (g:Gr) (most:Int):Δ×Bool:=if bW g≠0\/most<1 then ([],false) else ((D3 g).take most.toNat,decide (((D3 g).length:Int)<=most))
theorem ln {F:PH} {v:Γ} {g:Gr} (hT:Tab F) (hg:GV F v g) (hz:Sz g) (hc:g.conds.length<=30) (most:Int):
  ae prog 23 #[.agg v,vi most] F λr F'=>(∃s:Sl,r=.tuple #[s.v,.bool (j7 g most).2]/\RdS F' s 1 ((j7 g most).1.map vC))/\F.le F':=by
 have hg0:=hg;obtain ⟨c,n,t,s,p,l,f,rfl,hs⟩:=hg;have ec:=hs.c.len (by decide);refine WU ?_;unfold Tn;refine fresh λb2 F1 l1 q2 _=> ?_;refine fresh λb3 F2 l2 q3 _=>⟨_,hg0.size,aj (l2 _ _ q2),?_⟩;have l12:=aa l1 l2;refine (gb (hT.le l12) (hg0.le l12) hz).mono ?_;rintro _ F3 ⟨rfl,l3⟩;have l13:=aa l12 l3;have bad:bW g≠0\/most<1->(∃s:Sl,Value.tuple #[Sl.nil.v,.bool false]=.tuple #[s.v,.bool (j7 g most).2]/\RdS F3 s 1 ((j7 g most).1.map vC))/\F.le F3:=λh=>by unfold j7;rw [if_pos h];exact ⟨⟨Sl.nil,rfl,RdS.nil _ _⟩,l13⟩
 refine ⟨_,rfl,λh=>bad (.inl h),λh0=>⟨_,ld (l3 _ _ q3) rfl,λh=>bad (.inr h),λh1=> ?_⟩⟩;have h0:bW g=0:=Classical.not_not.1 h0;obtain ⟨tr,hk,hd,ht,hl,hb⟩:=D1 (ga.1 h0).fam.2.2.1;refine (St.start F3).new λb6 F4 h=> ?_;refine h.new λb7 F5 h=> ?_;refine h.set0 (by simp) rfl λF6 h=> ?_;refine h.pinb (K:=λF6=>_) λG6 l6 q7 h=> ?_;replace h:=h.nilOwn 54 1;have l36:=aa l3 l6;refine ⟨_,ld (h.le _ _ q7) rfl,#[n.v,vi g.fam.2],rfl,fo (h.le _ _ (l6 _ _ (l3 _ _ (l2 _ _ q2)))) rfl,_,ld (h.le _ _ (l6 _ _ (l3 _ _ (l2 _ _ q2)))) rfl,_,_,_,rfl,yP,?_⟩;rw [ec];have hp:2 ^ g.conds.length<=2 ^ 30:=X0 (by decide) hc;refine (D2 (G0:=G6) (most:=most) (ld (l36 _ _ q3) rfl) (ld q7 rfl) g.conds.length hc tr 0 [] G6 F6 Sl.nil _ hk hl hb (Nat.zero_mod _) (by omega) (am _) (by rw [<- hd];exact DV.mk (hs.n.le (aa l13 l6))) (by simp;omega) (by simp;omega) h).mono ?_;rintro _ F7 ⟨G7,s7,rfl,l7,h⟩;have en:fa g.conds.length tr 0=D3 g:=by rw [lj _ _ hk hb];unfold D3;rw [ht];simp
 rw [en] at h ⊢;refine ⟨_,rfl,s7,h.ld1 rfl,?_⟩;unfold j7;rw [if_neg (by omega)];refine ⟨⟨s7,by simp,?_⟩,aa l13 (aa l6 (aa l7 h.le))⟩;have:=(h.ownAt (i:=0) rfl).1.rd;simpa using this
abbrev vB (n:Nat):Value:=.int .u8 (n:Int)
theorem QG (st:ByteArray):((bs st).map vB)=st.data.toList.map λb=>Value.int .u8 (b.toNat:Int):=by simp [bs]
theorem QH (l:Δ):∀v∈l.map vB,ai v:=by intro v hv;obtain ⟨x,_,rfl⟩:=X3.1 hv;exact ⟨λ_ h=>(by cases h),λ_ h=>(by cases h)⟩
abbrev kA (st:ByteArray):Ξ:=(bs st).map vB
theorem qr (st:ByteArray):(kA st).length=st.size:=by rw [XH,aX]
theorem JH (st:ByteArray):((st.extract 0 st.size).data.map λb=>Value.int .u8 b.toNat)=(kA st).toArray:=by apply Array.ext';simp [kA,QG]
theorem iJ {P:Program} {F:PH} {s:Sl} {st:ByteArray} {t t2 e bytes ty:Nat} {z:Value} {olds:Ξ} {Q:Value->Ψ} (ht:P.underlying t=some (.slice e)) (ht2:P.underlying t2=some .string) (hsz:tsz P e=some (1,bytes)) (hz:bC P e=some z) (hzs:z.cells.size=1)
  (ho:RdS F s 1 olds) (hfit:(s.len+st.size)*bytes<=140737488355328) (hlen:s.len+st.size<=9223372036854775807)
  (h0:st.size=0->s.len+st.size<=s.cap->Q (Sl.v ⟨s.base,s.len+st.size,s.cap⟩) F)
  (h1:0<st.size->s.len+st.size<=s.cap->∃b o c e',s.base=some ⟨b,o,none⟩/\F b=some (.cells c e' (0,0))/\o+s.len+st.size<=c.size/\
   Q (Sl.v ⟨s.base,s.len+st.size,s.cap⟩) (F.set b (.cells (wr c (o+s.len) (kA st)) e')))
  (h2:s.cap<s.len+st.size->∀cap b,s.len+st.size<=cap->F b=none->Q (Sl.v ⟨some ⟨b,0,none⟩,s.len+st.size,cap⟩) (F.set b (.cells (olds.toArray++(kA st).toArray++Builtin.zeroCells z.cells (cap - (s.len+st.size))) e))):
  aG P (Builtin.append_ #[t,t2] ty #[s.v,.string st]) F Q:=by
 have hnl:(kA st).length=st.size:=qr st;have hst:∀v∈kA st,ai v:=QH _;have hol:=ho.len;have hfn:∀Q',Q' (kA st).toArray F->aG P (Builtin.firstCells 1 st.size (.string st)) F Q':=λQ' hq=>by simp only [Builtin.firstCells,aN];rw [JH];exact hq
 have hfo:∀Q',Q' olds.toArray F->aG P (Builtin.firstCells 1 s.len s.v) F Q':=λQ' hq=>fz ho (XA _) (by rw [<- hol,XF];exact hq);obtain ⟨base,len,cap⟩:=s;simp only [Builtin.append_,aD,Sl.v,YZ,YF,Yz,bS ht,bS ht2,Builtin.lenOf,aN,eF hsz,X7,if_false,Bool.not_false,if_true] at*;obtain ⟨i,hib,hti⟩:=dQ hsz;by_cases hroom:len+st.size<=cap
 ·rw [if_pos hroom];simp only [aD];refine hfn _ ?_;by_cases hz0:st.size=0
  ·have hnil:(kA st)=[]:=XO (by rw [hnl,hz0]);cases base with
   |none=>exact h0 hz0 hroom
   |some a=>simp only [hnil,storeCells,aD,aN];exact h0 hz0 hroom
  ·obtain ⟨b,o,c,e',g1,g2,g3,g4⟩:=h1 (by omega) hroom;cases g1;simp only [aD];refine d3 (kA st) 0 F _ c _ (by simp) (by simpa using g2) (by simp only [av];rw [hnl];omega) hst (λhnn=>hz0 (by rw [<- hnl,hnn];rfl)) ?_;simpa using g4
 ·rw [if_neg hroom];simp only [aD,hti]
  rw [if_neg (by
   rintro ⟨ha,hb⟩;have:(i64.max:Int)=9223372036854775807:=by decide
   rw [this] at ha
   omega)]
  have hg:=growslice_fits (need:=len+st.size) (old:=cap) (bytes:=bytes) (by omega) hfit;simp only [aD,hti];rw [if_neg (by rw [hib];omega)];simp only [aD,choose];unfold aG;rw [if_neg (by simp [Question.forced])];intro tt;simp only [aG,hti];refine ip ?_;refine hfo _ ?_;refine hfn _ ?_;simp only [dw hz,newRow,newObj,aD,aG,aN];intro b hb;exact h2 (by omega) _ b (by simp only [Question.cut];omega) hb
theorem qs {F:PH} {s:Sl} {st:ByteArray} {t t2 e bytes ty:Nat} {z:Value} {P:Program} {olds:Ξ} {Q:Value->Ψ} (ht:P.underlying t=some (.slice e)) (ht2:P.underlying t2=some .string) (hsz:tsz P e=some (1,bytes)) (hz:bC P e=some z) (hzs:z.cells.size=1)
  (ho:bj F e 1 s olds) (hx:0<st.size) (hfit:(s.len+st.size)*bytes<=140737488355328) (hlen:s.len+st.size<=9223372036854775807)
  (h:∀s' F' b o,F'=F.set b o->bj F' e 1 s' (olds++(kA st))->s'.len=s.len+st.size->(∀a,s'.base=some a->a.block=b)->((∃a,s.base=some a/\a.block=b)\/F b=none)->Q s'.v F'):
  aG P (Builtin.append_ #[t,t2] ty #[s.v,.string st]) F Q:=by
 have hol:=ho.rd.len;have hsl:=qr st;refine iJ ht ht2 hsz hz hzs ho.rd hfit hlen (λh0=>by omega) ?_ ?_
 ·intro _ hroom;rcases ho with ⟨rfl,rfl⟩|⟨b,cur,h1,h2,h3,h4,h5,h6⟩
  ·have e1:Sl.nil.cap=0:=rfl;have e2:Sl.nil.len=0:=rfl;omega
  ·refine ⟨b,0,cur,e,h1,h2,by omega,?_⟩;refine h ⟨_,_,_⟩ _ b _ rfl (.inr ⟨b,_,h1,aq _ _ _,by rw [dZ,h3],hroom,by rw [N3];simp only;omega,?_⟩) rfl (λa ha=>by rw [h1] at ha;cases ha;rfl) (.inl ⟨_,h1,rfl⟩);simp only [XZ];have hw:=jQ (kA st) cur.toList s.len (by rw [hsl,XN];omega);rw [show cur.toList.toArray=cur by simp] at hw;rw [hw];rw [XS] at h6 ⊢;simp only;rw [h6];rw [XW (by rw [N3];omega),XK (by rw [N3];omega)]
 ·intro hgt cap b hc hb;refine h ⟨_,_,_⟩ _ b _ rfl (.inr ⟨b,_,rfl,aq _ _ _,?_,hc,by rw [N3];simp only;omega,?_⟩) rfl (λa ha=>by cases ha;rfl) (.inr hb)
  ·simp [Builtin.zeroCells,hzs];have e1:=aX st;omega
  ·simp only [List.append_toArray,Array.toList_append];rw [XW (by rw [N3];omega),XK (by rw [N3];omega)]
theorem St.appStrAt {G F:PH} {As:List (Ψ)} {t t2 e bytes:Nat} {z:Value} (T:SlT t e 1 bytes z) (ht2:prog.underlying t2=some .string) {s:Sl} {st:ByteArray} {olds:Ξ} {ty:TypeId} (h:St G F As) (i:Nat) (hi:As[i]? =some (own s e 1 olds))
  (hlen:s.len+st.size<=500000000000) {K:Sl->Ψ} (k:∀s' F',St G F' (As.set i (own s' e 1 (olds++kA st)))->s'.len=s.len+st.size->K s' F'):
  aG prog (Builtin.append_ #[t,t2] ty #[s.v,.string st]) F λv F=>∃s':Sl,v=Sl.v s'/\K s' F:=by
 have ho:=(h.ownAt hi).1;by_cases h0:st.size=0
 ·have hnil:kA st=[]:=XO (by rw [qr,h0]);have hs:(⟨s.base,s.len+st.size,s.cap⟩:Sl)=s:=by rw [h0];rfl
  obtain ⟨H,a1,a2,a3,a4⟩:=h.set (A':=own s e 1 olds) hi;have hk:=k s F (by rw [hnil,Ye];exact a4 H F a1 (λb hb=> .inl hb) a3 (λb o hb _=>hb)) (by omega);have:=ho.rd.cap;exact iJ T.ht ht2 T.hsz T.hz T.hzs ho.rd (A7 T.hb hlen) (by omega) (λ_ _=>by rw [hs];exact ⟨s,rfl,hk⟩) (λh1=>absurd h0 (by omega)) (λh1=>by omega)
 ·refine qs T.ht ht2 T.hsz T.hz T.hzs ho (by omega) (A7 T.hb hlen) (by omega) ?_;rintro s' F' b ob rfl ho' hl' hbase hb;obtain ⟨H,a1,a2,a3,a4⟩:=h.set (A':=own s' e 1 (olds++kA st)) hi;have hb':H b≠none\/F b=none:=by
   rcases hb with ⟨a,ha,rfl⟩|hb
   ·obtain ⟨cur,hc⟩:=bj.elem a1 ha;exact .inl (by rw [hc];simp)
   ·exact .inr hb
  refine ⟨s',rfl,k s' _ ?_ hl'⟩;refine a4 (PH.set (λ_=>none) b ob) _ (ho'.keep λa ha=>by rw [hbase a ha,aq,aq]) (λx hx=> ?_) (λx p hx=> ?_) (λx p hx hn=> ?_)
  ·by_cases e:x=b
   ·rw [e];exact hb'
   ·rw [aC _ _ e] at hx;exact absurd rfl hx
  ·by_cases e:x=b
   ·rw [e,aq] at hx ⊢;exact hx
   ·rw [aC _ _ e] at hx;cases hx
  ·have e:x≠b:=λe=>by
    subst e;rcases hb' with h|h
    ·exact h hn
    ·rw [h] at hx;cases hx
   rw [aC _ _ e];exact hx
theorem D4:SlT 22 5 1 1 (.int .u8 0):=⟨underlying22,sz5,zr5,rfl,by decide,by decide⟩
def bQ (n:Nat):Δ:=if n<128 then [n] else (n % 128+128)::bQ (n / 128)
def eI (x:Int):Δ:=bQ x.toNat
def eS (s:ByteArray):Δ:=bQ s.size++bs s
def eB (b:Bool):Δ:=[if b then 1 else 0]
def eL {α:Type} (f:α->Δ) (l:List α):Δ:=bQ l.length++l.flatMap f
def eBr (b:Br):Δ:=eI b.v++eI b.l++eI b.h
def eD (d:Dia):Δ:=eL eBr d.1++eI d.2
def eNd (x:Nd):Δ:=eI x.k++eI x.lo++eI x.hi++eI x.a++eI x.b
def eTk (t:Tk):Δ:=eS t.name++eI t.cls++eS t.lit++eL eNd t.pat++eS t.smp++eD t.cond
def eSy (s:Sy):Δ:=eB s.t++eI s.i
def eCn (x:Cn):Δ:=eI x.k++eI x.a++eI x.b
def yQ (s:Sco):Δ:=eB s.o++(eI s.d++eI s.k++eI s.u++eI s.a)
def ePr (p:Pr):Δ:=eS p.name++eI p.left++eL eSy p.right++eD p.cond++eB p.brk++eI (p.rank+1)++eL eCn p.lay++yQ p.sco
def eLv (l:Lv):Δ:=eL eI l.ps++eI l.assoc++eD l.cond
def eFi (f:Fi):Δ:=eI f.k++eI f.par++eI f.pos++eI f.ch++eI f.left++eI f.tok++eL eI f.toks++eD f.cond
def eGr (g:Gr):Δ:=eL eS g.conds++eD g.fam++eL eTk g.toks++eL eS g.nons++eL ePr g.prods++eI g.start++eL eLv g.lvs++eL eFi g.fils
structure NN (g:Gr):Prop where
 fam:(∀b∈g.fam.1,0<=b.v/\0<=b.l/\0<=b.h)/\0<=g.fam.2
 toks:∀t∈g.toks,0<=t.cls/\(∀x∈t.pat,0<=x.k/\0<=x.lo/\0<=x.hi/\0<=x.a/\0<=x.b)/\(∀b∈t.cond.1,0<=b.v/\0<=b.l/\0<=b.h)/\0<=t.cond.2
 prods:∀p∈g.prods,0<=p.left/\(∀s∈p.right,0<=s.i)/\((∀b∈p.cond.1,0<=b.v/\0<=b.l/\0<=b.h)/\0<=p.cond.2)/\-1<=p.rank/\p.rank<=1/\(∀x∈p.lay,0<=x.k/\0<=x.a/\0<=x.b)/\0<=p.sco.d/\0<=p.sco.k/\0<=p.sco.u/\0<=p.sco.a
 start:0<=g.start
 lvs:∀l∈g.lvs,(∀x∈l.ps,0<=x)/\0<=l.assoc/\(∀b∈l.cond.1,0<=b.v/\0<=b.l/\0<=b.h)/\0<=l.cond.2
 fils:∀f∈g.fils,0<=f.k/\0<=f.par/\0<=f.pos/\0<=f.ch/\0<=f.left/\0<=f.tok/\(∀x∈f.toks,0<=x)/\(∀b∈f.cond.1,0<=b.v/\0<=b.l/\0<=b.h)/\0<=f.cond.2
abbrev JI (s:Sl):Γ:= #[vi 0,s.v,vi 0,.bool false]
abbrev cod (bc:Nat) (s:Sl) (out:Δ):List (Ψ):=[own s 5 1 (out.map vB),pt bc (.cells (JI s) 116)]
def WrS (G:PH) (bc:Nat) (f:FuncId) (args:Γ) (v:Value) (bx:Δ):Prop:=
 ∀G1 F s out,G.le G1->out.length+bx.length<=100000000000->St G1 F (cod bc s out)->ae prog f args F λr F'=>∃G' s',r=v/\G1.le G'/\St G' F' (cod bc s' (out++bx))
theorem WrS.le {G G':PH} {bc:Nat} {f:FuncId} {args:Γ} {v:Value} {bx:Δ} (h:WrS G bc f args v bx) (l:G.le G'):WrS G' bc f args v bx:=
 λG1 F s out l1 hb hs=>h G1 F s out (aa l l1) hb hs
theorem WrS.go {G G1 F:PH} {bc:Nat} {f:FuncId} {args:Γ} {v:Value} {bx:Δ} {s:Sl} {out:Δ} {Q:Value->Ψ} (hw:WrS G bc f args v bx) (l:G.le G1) (hb:out.length+bx.length<=100000000000) (h:St G1 F (cod bc s out))
  (k:∀G' F' s',G1.le G'->St G' F' (cod bc s' (out++bx))->Q v F'):ae prog f args F Q:=
 (hw G1 F s out l hb h).mono λr F' ⟨G',s',e,l',h'⟩=>by rw [e];exact k G' F' s' l' h'
theorem A8 {G F:PH} {As:List (Ψ)} {s:Sl} {out:Δ} (h:St G F (own s 5 1 (out.map vB)::As)):s.len=out.length:=by have:=(h.ownAt (i:=0) rfl).1.rd.len;simp at this;exact this.symm
abbrev pc (bc:Nat):Value:=.pointer (some (Addr.mk bc 0 none))
theorem FI {G F:PH} {s:Sl} {out:Δ} {x:Nat} {As:List (Ψ)} (h:St G F (own s 5 1 (out.map vB++ #[vB x].toList)::As)):St G F (own s 5 1 ((out++[x]).map vB)::As):=by rw [XP];exact h
theorem JJ:∀n:Nat,u8.wrap ((BitVec.ofInt (u8).bits (u8.wrap (n:Int)) ||| BitVec.ofInt (u8).bits (128:Int)).toNat)=((n % 128+128:Nat):Int):=by
 intro n;have e1:u8.wrap (n:Int)=((n % 256:Nat):Int):=by simp [IntKind.wrap,IntKind.bits,IntKind.signed]
 rw [e1];have key:∀m:Fin 256,u8.wrap ((BitVec.ofInt (u8).bits ((m.val:Nat):Int) ||| BitVec.ofInt (u8).bits (128:Int)).toNat)=((m.val % 128+128:Nat):Int):=by decide+kernel
 have:=key ⟨n % 256,YB _ (by decide)⟩;rw [this];simp only;omega
theorem bR {n:Nat} (h:n<128):bQ n=[n]:=by unfold bQ;rw [if_pos h]
theorem gK {n:Nat} (h:¬n<128):bQ n=(n % 128+128)::bQ (n / 128):=by rw [bQ,if_neg h]
theorem dX (n:Nat):0<(bQ n).length:=by
 by_cases h:n<128
 ·rw [bR h];simp
 ·rw [gK h];simp
theorem JK (n:Nat):Int.fdiv (n:Int) (2 ^ (min (Int.toNat (7:Int)) (i64).bits))=((n / 128:Nat):Int):=by show Int.fdiv (n:Int) (2 ^ 7)=_;rw [Int.fdiv_eq_ediv_of_nonneg _ (by decide)];norm_cast
theorem lq {G:PH} {bc:Nat} {a:Addr} {n:Nat} (ha:G.cell a=some (vi n)):WrS G bc 125 #[pc bc,.pointer (some a)] (.tuple #[]) (bQ n):=by
 intro G1 F s out l hb h;refine M2 ?_;unfold Ie;refine ⟨_,rfl,_,h.ld1 rfl,λ_=>⟨_,rfl,_,au (aa l h.le) ha,?_⟩,λh=>absurd rfl h⟩;refine ⟨λm i F'=>∃(k:Nat) (G2:PH) (s2:Sl) (out2:Δ),i=(k:Int)/\m=k/\G1.le G2/\St G2 F' (cod bc s2 out2)/\out++bQ n=out2++bQ k,n,⟨n,G1,s,out,rfl,rfl,am _,h,rfl⟩,?_⟩;rintro m i F2 ⟨k,G2,s2,out2,rfl,hm,l2,h,he⟩;have hlen:=congrArg List.length he;rw [N3,N3] at hlen;have hs2:=A8 h;have:=dX k;unfold Cw;refine ⟨λhk=> ?_,λhk=> ?_⟩
 ·have hk':¬k<128:=by omega
  refine ⟨_,by rw [av];exact h.ld1 rfl,?_⟩;rw [JJ,JK];refine h.push0 D4 (c:= #[vB (k % 128+128)]) rfl (by simp [ai]) (by omega) λs3 G3 F3 l3 h hl3=> ?_;rw [av];refine h.set1 (w':=JI s3) (by simp) rfl λF4 h=> ?_;refine ⟨k / 128,by have:=Nat.div_lt_self (n:=k) (k:=128) (by omega) (by decide);omega,k / 128,G3,s3,out2++[k % 128+128],rfl,rfl,aa l2 l3,?_,?_⟩
  ·exact FI h
  ·rw [he,gK hk',Xz];rfl
 ·have hk':k<128:=by omega
  unfold Cv;have ew:u8.wrap (k:Int)=(k:Int):=by simp [IntKind.wrap,IntKind.bits,IntKind.signed];omega
  rw [ew];refine ⟨_,by rw [av];exact h.ld1 rfl,?_⟩;refine h.push0 D4 (c:= #[vB k]) rfl (by simp [ai]) (by omega) λs3 G3 F3 l3 h hl3=> ?_;rw [av];refine h.set1 (w':=JI s3) (by simp) rfl λF4 h=>⟨G3,s3,rfl,aa l2 l3,?_⟩;rw [he,bR hk'];exact FI h
theorem A9 (G:PH) {bc:Nat} (n:Nat):WrS G bc 178 #[pc bc,vi n] (vi n) (bQ n):=by intro G1 F s out l hb h;refine Nj ?_;unfold Ih;refine h.newG λb3 G2 F2 l2 q3 _ h=> ?_;refine (lq (ld q3 rfl)).go (am _) hb h λG3 F3 s3 l3 h=>⟨rfl,_,rfl,_,h.ld1 rfl,λh=>(by cases h),λ_=> ?_⟩;unfold iB;exact ⟨λh=>(by cases h),λ_=>⟨_,ld (h.le _ _ (l3 _ _ q3)) rfl,G3,s3,rfl,aa l2 l3,h⟩⟩
theorem qt {G:PH} {bc:Nat} {a:Addr} {x:ByteArray} (ha:G.cell a=some (.string x)):WrS G bc 119 #[pc bc,.pointer (some a)] (.tuple #[]) (eS x):=by intro G1 F s out l hb h;unfold eS at hb ⊢;rw [N3,aX] at hb;refine MY ?_;unfold Ia;refine ⟨_,rfl,_,au (aa l h.le) ha,?_⟩;refine (A9 G1 x.size).go (am _) (by omega) h λG3 F3 s3 l3 h=>⟨_,rfl,_,rfl,_,h.ld1 rfl,λ_=>⟨_,by rw [av];exact h.ld1 rfl,_,au (aa l (aa l3 h.le)) ha,?_⟩,λh=>absurd rfl h⟩;have hs3:=A8 h;rw [N3] at hs3;refine h.appStrAt D4 underlying9 0 rfl (by omega) λs4 F4 h hl4=> ?_;rw [av];refine St.set1 (w':=JI s4) h (by simp) rfl λF5 h=>⟨G3,s4,rfl,l3,?_⟩;rw [<- Xz];show St G3 F5 [own s4 5 1 ((out++bQ x.size++bs x).map vB),_];rw [XP (l₂:=bs x)];exact h
def dn (n:Nat) (X:Addr->Prop) (o:Ω) (m:Θ) (l:Addr) (j:Value) (h:Int) (R:VR) (b:Int) (F:PH):Prop:=((b<h-> ∃a:Addr,m=some a/\∃c:Bool,F.cell (Addr.add a 3)=some (.bool c)/\(((!c)=true-> ∃d:Int,F.cell a=some (.int .i64 d)/\((d=(0:Int)-> ∃e:Sl,F.cell l=some (Sl.v e)/\∃i:Addr,e.base=some i/\0<=b/\b<(e.len:Int)/\∃(k:Nat) (f g:Γ),j=.func (.func k) f g/\aB prog k=true/\ae prog k (f++([.pointer (some (Addr.add i (Int.toNat b*n)))]).toArray++g) F λv F=>v=(.tuple #[])/\o (i64.wrap (b+(1:Int))) F)/\(¬(d=(0:Int))-> X a)))/\((!c)=false-> R (.tuple #[]) F)))/\(¬(b<h)-> R (.tuple #[]) F))
def iK (L:(Ω)->Θ->Addr->Value->Int->VR->Ω) (e:Θ) (i:Θ) (d:Value) (R:VR) (F:PH):Prop:=∃a:Addr,i=some a/\∃b:Sl,F.cell a=some (Sl.v b)/\ae prog 178 #[.pointer e,.int .i64 (b.len:Int)] F λv F=>∃c:Int,v=(.int .i64 c)/\(∃(j:Nat->Ω) (h:Nat),j h (0:Int) F/\∀h f F,j h f F-> L (λg F=>∃k,k<h/\j k g F) e a d c R f F)
theorem kB {α β:Type} {l:List α} {k:Nat} {x:α} (f:α->List β) (h:l[k]? =some x):(l.take (k+1)).flatMap f=(l.take k).flatMap f++f x:=by rw [aK h,XU];simp
theorem ib {α:Type} (f:α->Δ) (l:List α) (k:Nat):((l.take k).flatMap f).length<=(l.flatMap f).length:=by
 have:l.flatMap f=(l.take k).flatMap f++(l.drop k).flatMap f:=by rw [<- XU,X9]
 rw [this,N3];omega
theorem gp {α:Type} [Mem α] {G:PH} {bc:Nat} {la:Addr} {sl:Sl} {l:List α} (hl:RL G sl l) (hla:G.cell la=some sl.v) (hn:0<Mem.n α) (hll:l.length<=1000000000) {k:Nat} {fst cap:Γ} (hk:aB prog k=true) (f:α->Δ) (args:Value->Γ) (ha:∀p,fst++([p]).toArray++cap=args p)
  (hone:∀x∈l,∀G1 a c,G.le G1->G1.row a c->Mem.rep G1 x c->WrS G1 bc k (args (.pointer (some a))) (.tuple #[]) (f x))
  {L:(Ω)->Θ->Addr->Value->Int->VR->Ω} (hL:∀N c0 l1 o v R i F,∃X,L N c0 l1 o v R i F=dn (Mem.n α) X N c0 l1 o v R i F)
  {G1 F:PH} {s:Sl} {out:Δ} (l01:G.le G1) (hb:out.length+(eL f l).length<=100000000000) (h:St G1 F (cod bc s out)):
  iK L (some (Addr.mk bc 0 none)) (some la) (.func (.func k) fst cap) (λr F'=>∃G' s',r=.tuple #[]/\G1.le G'/\St G' F' (cod bc s' (out++eL f l))) F:=by
 have el:=hl.len hn;unfold eL at hb ⊢;rw [N3] at hb;refine ⟨_,rfl,_,au (aa l01 h.le) hla,?_⟩;rw [el];refine (A9 G1 l.length).go (am _) (by omega) h λG2 F2 s2 l2 h=>⟨_,rfl,?_⟩;refine bF (L · _ _ _ _ _) l.length (λj F'=>∃G3 s3,G2.le G3/\St G3 F' (cod bc s3 (out++bQ l.length++(l.take j).flatMap f))) ⟨G2,s2,am _,by simpa using h⟩ ?_;rintro j F3 N hj ⟨G3,s3,l3,h⟩ next;obtain ⟨X,hX⟩:=hL N (some (Addr.mk bc 0 none)) la (.func (.func k) fst cap) (l.length:Int) (λr F'=>∃G' s',r=.tuple #[]/\G1.le G'/\St G' F' (cod bc s' (out++(bQ l.length++l.flatMap f)))) (j:Int) F3;rw [hX];unfold dn;have l03:=aa l01 (aa l2 l3);refine ⟨λhlt=> ?_,λhge=> ?_⟩
 ·have hlt:j<l.length:=by omega
  refine ⟨_,rfl,_,by rw [av];exact h.ld1 rfl,λ_=>⟨_,h.ld1 rfl,λ_=>⟨_,au (aa l03 h.le) hla,?_⟩,λh=>absurd rfl h⟩,λh=>(by cases h)⟩;refine ixc (hl.le l03) hn (by omega) (by omega) λa c x hx hr hc=>⟨k,fst,cap,rfl,hk,?_⟩;rw [N5] at hx;have hxm:x∈l:=XG hx;have e:=kB f hx;have hp:=ib f l (j+1);rw [e,N3] at hp;rw [ha];refine (hone x hxm G3 _ c l03 hr hc).go (am _) (by rw [N3,N3];omega) h λG4 F4 s4 l4 h=>⟨rfl,?_⟩;rw [aE hlt (by omega)];refine next _ hlt ⟨G4,s4,aa l3 l4,?_⟩;rw [e,<- Xz];exact h
 ·have e:j=l.length:=by omega
  subst e;rw [XF] at h;exact ⟨G3,s3,rfl,aa l2 l3,by rw [<- Xz];exact h⟩
end Go.Proofs.YtenpmjhnhepfdaaGreatDoor

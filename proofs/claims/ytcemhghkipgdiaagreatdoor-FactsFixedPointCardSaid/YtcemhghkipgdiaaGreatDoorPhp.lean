/-
  A program logic over partial heaps: strings put together, compared, made of bytes; ranges over strings.
-/
import Derived.Test.YtcemhghkipgdiaaGreatDoorPhm
import Derived.Orders
import Derived.Test.YtcemhghkipgdiaaGreatDoorProg
import Derived.KernelRfl
namespace Go.Proofs.YtcemhghkipgdiaaGreatDoor
open Go
theorem st1 {F:PH} {b o:Nat} {v:Value} {c:Γ} {e:TypeId} {K:Ψ} (h:F b=some (.cells c e (0,0))) (hl:o<c.size) (k:K (F.set b (.cells (c.setIfInBounds o v) e))):
  ∃c e,F (Addr.mk b o none).block=some (.cells c e (0,0))/\(Addr.mk b o none).spot=none/\(Addr.mk b o none).off<c.size/\
   atF (F.set (Addr.mk b o none).block (.cells (c.setIfInBounds (Addr.mk b o none).off v) e)) K:=⟨c,e,h,rfl,hl,k⟩
theorem rA {F:PH} {A:Addr} {b o:Nat} {v:Value} {c:Γ} {e:TypeId} {K:Ψ} (hA:A=⟨b,o,none⟩) (h:F b=some (.cells c e (0,0))) (hl:o<c.size) (k:K (F.set b (.cells (c.setIfInBounds o v) e))):
  ∃c e,F A.block=some (.cells c e (0,0))/\A.spot=none/\A.off<c.size/\atF (F.set A.block (.cells (c.setIfInBounds A.off v) e)) K:=by
 subst hA;exact st1 h hl k
theorem C5 {c d:Γ} (h:c.size=d.size):wr c 0 d.toList=d:=by
 apply Array.ext
 ·rw [dJ,h]
 ·intro i h1 h2;have:=ua d.toList c 0 i (by simp [h]);rw [if_pos (by simp;omega)] at this;simp only [TZ] at this;rw [SZ h1] at this;simp at this;rw [SZ h2] at this;exact SY this
theorem stW {F:PH} {b n:Nat} {v c:Γ} {e:TypeId} {K:Ψ} (h:F b=some (.cells c e (0,0))) (hs:v.size=n) (hc:c.size=n) (hst:∀x∈v.toList,ak x) (k:K (F.set b (.cells v e))):
  v.size=n/\(∀x∈v.toList,ak x)/\∃c e,F (Addr.mk b 0 none).block=some (.cells c e (0,0))/\(Addr.mk b 0 none).spot=none/\(Addr.mk b 0 none).off+n<=c.size/\
   atF (F.set (Addr.mk b 0 none).block (.cells (wr c (Addr.mk b 0 none).off v.toList) e)) K:=
 ⟨hs,hst,c,e,h,rfl,by simp [hc],by
  unfold atF;rw [show (Addr.mk b 0 none).off=0 from rfl,C5 (by rw [hc,hs])]
  exact k⟩
theorem zc1 (v:Value) (h:v.cells= #[v]) (n:Nat):Builtin.zeroCells v.cells n=(List.replicate n v).toArray:=by
 rw [ou _ (by rw [h];rfl),h];congr 1;induction n with
 |zero=>rfl
 |succ n ih=>simp [List.replicate_succ,ih]
theorem MX {n:Nat} (h:n<=9223372036854775807):IntKind.i64.wrap (n:Int)=n:=aO (by omega) (by omega)
theorem iR {n:Nat} (h:n<9223372036854775807):IntKind.i64.wrap ((n:Int)+1)=((n+1:Nat):Int):=by rw [aO (by omega) (by omega)];omega
theorem dI (vs:Ξ):∀(c:Ξ) (o:Nat),o+vs.length<=c.length->wr c.toArray o vs=(c.take o++vs++c.drop (o+vs.length)).toArray:=by
 intro c o h;apply Array.ext
 ·rw [dJ];simp;omega
 ·intro i h1 h2;have:=ua vs c.toArray o i (by simpa using h);rw [SZ h1] at this;rw [dJ] at h1;simp only [Ud] at h1;have h3:(c.take o++vs++c.drop (o+vs.length)).toArray[i]=(c.take o++vs++c.drop (o+vs.length))[i]'(by simpa using h2):=by simp
  rw [h3];apply SY;rw [<- N5,this];by_cases hi:i<o
  ·rw [if_neg (by omega),Ta,SJ (by simp;omega)];simp [hi]
  ·by_cases hj:i<o+vs.length
   ·rw [if_pos ⟨by omega,hj⟩,SJ (by simp;omega),S6 (by simp;omega)];simp;congr 1;omega
   ·rw [if_neg (by omega),S6 (by simp;omega)];simp;congr 1;omega
def ca (F:PH) (e size:Nat) (s:Sl) (vs:Ξ):Prop:=
 (s=Sl.nil/\vs=[])\/∃b cur,s.base=some ⟨b,0,none⟩/\F b=some (.cells cur e (0,0))/\cur.size=s.cap*size/\s.len<=s.cap/\vs.length=s.len*size/\cur.toList.take (s.len*size)=vs
theorem ca.rd {F:PH} {e size:Nat} {s:Sl} {vs:Ξ} (h:ca F e size s vs):RdS F s size vs:=by
 rcases h with ⟨rfl,rfl⟩|⟨b,cur,h1,h2,h3,h4,h5,h6⟩
 ·exact RdS.nil F size
 ·obtain ⟨base,len,cap⟩:=s;cases h1;exact RdS.new h2 h6 h5 h4
theorem ca.keep {F G:PH} {e size:Nat} {s:Sl} {vs:Ξ} (h:ca F e size s vs) (hk:∀a,s.base=some a->G a.block=F a.block):ca G e size s vs:=by
 rcases h with h|⟨b,cur,h1,h2,h3⟩
 ·exact .inl h
 ·exact .inr ⟨b,cur,h1,(hk _ h1).trans h2,h3⟩
theorem pI {F:PH} {s x:Sl} {t e size bytes ty:Nat} {z:Value} {P:Program} {olds news:Ξ} {Q:Value->Ψ} (ht:P.underlying t=some (.slice e)) (hsz:tsz P e=some (size,bytes)) (hz:bP P e=some z) (hzs:z.cells.size=size) (hs0:0<size)
  (ho:ca F e size s olds) (hn:RdS F x size news) (hx:0<x.len) (hst:∀v∈news,ak v) (hfit:(s.len+x.len)*bytes<=140737488355328) (hlen:s.len+x.len<=9223372036854775807)
  (h:∀s' F' b o,F'=F.set b o->ca F' e size s' (olds++news)->s'.len=s.len+x.len->(∀a,s'.base=some a->a.block=b)->((∃a,s.base=some a/\a.block=b)\/F b=none)->Q s'.v F'):
  aD P (Builtin.append_ #[t,t] ty #[s.v,x.v]) F Q:=by
 have hpos:0<x.len*size:=Nat.mul_pos hx hs0;have hol:=ho.rd.len;refine iS ht hsz hz hzs ho.rd hn hst hfit hlen (λh0=>by omega) ?_ ?_
 ·intro _ hroom;rcases ho with ⟨rfl,rfl⟩|⟨b,cur,h1,h2,h3,h4,h5,h6⟩
  ·simp [Sl.nil] at hroom;omega
  ·have hle:s.len*size+x.len*size<=cur.size:=by rw [h3,<- Ue];exact TJ _ hroom
   refine ⟨b,0,cur,e,h1,h2,by omega,?_⟩;refine h ⟨_,_,_⟩ _ b _ rfl (.inr ⟨b,_,h1,al _ _ _,by rw [dJ,h3],hroom,by simp [h5,hn.len,Ue],?_⟩) rfl (λa ha=>by rw [h1] at ha;cases ha;rfl) (.inl ⟨_,h1,rfl⟩);simp only [SP];have hw:=dI news cur.toList (s.len*size) (by simp [hn.len];omega);rw [show cur.toList.toArray=cur by simp] at hw;rw [hw];simp only;rw [h6,Ue];rw [S5 (by simp [h5,hn.len]),SI (by simp [h5,hn.len])]
 ·intro hgt cap b hc hb;refine h ⟨_,_,_⟩ _ b _ rfl (.inr ⟨b,_,rfl,al _ _ _,?_,hc,by simp [hol,hn.len,Ue],?_⟩) rfl (λa ha=>by cases ha;rfl) (.inr hb)
  ·simp [Builtin.zeroCells,hzs,hol,hn.len];rw [<- Ue,<- Ue];congr 1;omega
  ·simp only [List.append_toArray,Array.toList_append];rw [S5 (by simp [hol,hn.len,Ue]),SI (by simp [hol,hn.len,Ue])]
theorem nf {F:PH} {s x:Sl} {t e size bytes ty:Nat} {z:Value} {P:Program} {olds news:Ξ} {Q:Value->Ψ} (ht:P.underlying t=some (.slice e)) (hsz:tsz P e=some (size,bytes)) (hz:bP P e=some z) (hzs:z.cells.size=size)
  (ho:ca F e size s olds) (hn:RdS F x size news) (hx:x.len=0) (hfit:s.len*bytes<=140737488355328) (hlen:s.len<=9223372036854775807)
  (h:Q s.v F):aD P (Builtin.append_ #[t,t] ty #[s.v,x.v]) F Q:=by
 have hnil:news=[]:=SU (by rw [hn.len,hx,TN]);subst hnil;refine iS ht hsz hz hzs ho.rd hn (by simp) (by rw [hx];exact hfit) (by rw [hx];exact hlen) (λ_ _=> ?_) (λh1=> ?_) (λh1=> ?_)
 ·rw [hx];exact h
 ·rw [hx] at h1;simp at h1
 ·have:=ho.rd.cap;omega
theorem kF {F0 F:PH} {s x:Sl} {t e size bytes ty:Nat} {z:Value} {P:Program} {olds news:Ξ} {Q:Value->Ψ} (ht:P.underlying t=some (.slice e)) (hsz:tsz P e=some (size,bytes)) (hz:bP P e=some z) (hzs:z.cells.size=size) (hs0:0<size)
  (hle:F0.le F) (ho:ca F e size s olds) (hnew:∀a,s.base=some a->F0 a.block=none) (hn:RdS F x size news) (hst:∀v∈news,ak v) (hfit:(s.len+x.len)*bytes<=140737488355328) (hlen:s.len+x.len<=9223372036854775807)
  (h:∀s' F',F0.le F'->ca F' e size s' (olds++news)->s'.len=s.len+x.len->(∀a,s'.base=some a->F0 a.block=none)->cI (λb=>∃a,s.base=some a/\a.block=b) F F'->(∀a,s'.base=some a->(∃a',s.base=some a'/\a'.block=a.block)\/F a.block=none)->Q s'.v F'):
  aD P (Builtin.append_ #[t,t] ty #[s.v,x.v]) F Q:=by
 by_cases h0:x.len=0
 ·have hnil:news=[]:=SU (by rw [hn.len,h0,TN]);refine nf ht hsz hz hzs ho hn h0 (by rw [h0] at hfit;exact hfit) (by omega) ?_;refine h s F hle (by rw [hnil,Tn];exact ho) (by omega) hnew (cI.refl _ _) (λa ha=> .inl ⟨a,ha,rfl⟩)
 ·refine pI ht hsz hz hzs hs0 ho hn (by omega) hst hfit hlen ?_;rintro s' F' b ob rfl ho' hl' hbase hb;have hb0:F0 b=none:=by
   rcases hb with ⟨a,ha,rfl⟩|hb
   ·exact hnew a ha
   ·exact aQ hle hb
  refine h s' _ (λy o hy=> ?_) ho' hl' (λa ha=>by rw [hbase a ha];exact hb0) (λy o hy hn=> ?_) (λa ha=> ?_)
  ·rw [az _ _ (λe=>by rw [e,hb0] at hy;cases hy)];exact hle _ _ hy
  ·rw [az]
   ·exact hy
   ·rintro rfl;rcases hb with hb|hb
    ·exact hn hb
    ·rw [hb] at hy;cases hy
  ·rw [hbase a ha];exact hb
theorem ac {F:PH} {b e:Nat} {c:Γ} {fr:Nat×Nat} (h:F b=some (.cells c e fr)):F.row (Addr.mk b 0 none) c:=by intro i hi;rw [aC,am h];simp
theorem aw {F0 F:PH} {b:Nat} {o:Obj} (h:F0.le F) (hb:F0 b=none):F0.le (F.set b o):=λy o' hy=>by rw [az _ _ (λe=>by rw [e,hb] at hy;cases hy)];exact h _ _ hy
theorem aj.upon {P:Program} {f:FuncId} {args:Γ} {F F2:PH} {R:Value->Ψ} (h:aj P f args F R) (hle:F.le F2):
  aj P f args F2 λv F'=>∃G,R v G/\G.le F'/\∀b o,F b=none->F2 b=some o->F' b=some o/\G b=none:=by
 have e:F2=F.and (λb=>if (F b).isNone then F2 b else none):=by
  funext b;cases hf:F b with
  |some o=>rw [PH.and_left hf];exact hle b o hf
  |none=>rw [PH.and_right hf];simp [hf]
 have hb:=h.beside (H:=λb=>if (F b).isNone then F2 b else none) (λb o hb=>by
  cases hf:F b with
  |some o'=>simp [hf] at hb
  |none=>rfl)
 rw [<- e] at hb;refine hb.mono ?_;rintro v F' ⟨G,hr,rfl,hd⟩;refine ⟨G,hr,λb o hb=>PH.and_left hb,λb o hb ho=> ?_⟩;have hH:(λb=>if (F b).isNone then F2 b else none) b=some o:=by simp [hb,ho]
 have hG:=hd b o hH;exact ⟨(PH.and_right hG).trans hH,hG⟩
end Go.Proofs.YtcemhghkipgdiaaGreatDoor
namespace Go.Proofs.YtcemhghkipgdiaaGreatDoor
inductive Tr where
 |leaf (b:Bool)
 |node (v:Nat) (l h:Tr)
deriving DecidableEq
abbrev Cf:=Nat->Bool
def Cf.set (c:Cf) (v:Nat) (b:Bool):Cf:=λi=>if i=v then b else c i
namespace Tr
def top:Tr->Nat
 |leaf _=>64
 |node v _ _=>v
def ev:Tr->Cf->Bool
 |leaf b,_=>b
 |node v l h,c=>if c v=true then h.ev c else l.ev c
def ok:Tr->Prop
 |leaf _=>True
 |node v l h=>v<64/\v<l.top/\v<h.top/\l≠h/\l.ok/\h.ok
def sz:Tr->Nat
 |leaf _=>1
 |node _ l h=>l.sz+h.sz+1
def mk (v:Nat) (l h:Tr):Tr:=if l=h then l else node v l h
def lo (v:Nat):Tr->Tr
 |leaf b=>leaf b
 |node w l h=>if w=v then l else node w l h
def hi (v:Nat):Tr->Tr
 |leaf b=>leaf b
 |node w l h=>if w=v then h else node w l h
def isL:Tr->Bool
 |leaf _=>true
 |node _ _ _=>false
theorem pJ {t:Tr} (h:t.ok) (hl:t.isL=false):t.top<64:=by
 cases t with
 |leaf b=>cases hl
 |node v l r=>exact h.1
theorem jR:∀(t:Tr),0<t.sz
 |leaf _=>Nat.one_pos
 |node _ _ _=>Nat.succ_pos _
theorem pK:∀(t:Tr),t.ok->∀(c d:Cf),(∀i,t.top<=i->c i=d i)->t.ev c=t.ev d
 |leaf _,_,_,_,_=>rfl
 |node v l h,⟨_,h1,h2,_,h4,h5⟩,c,d,hc=>by simp only [ev];rw [hc v (SC _),pK l h4 c d (λi hi=>hc i (by simp only [top];omega)),pK h h5 c d (λi hi=>hc i (by simp only [top];omega))]
theorem jS {t:Tr} (h:t.ok) {v:Nat} (hv:v<t.top) (c:Cf) (b:Bool):t.ev (c.set v b)=t.ev c:=
 pK t h _ _ λi hi=>by unfold Cf.set;rw [if_neg (by omega)]
theorem MY:∀(n:Nat) (a b:Tr),a.sz+b.sz<=n->a.ok->b.ok->(∀c,a.ev c=b.ev c)->a=b:=by
 intro n;induction n with
 |zero=>intro a b hn;have:=jR a;omega
 |succ n ih=>
  have key:∀(v:Nat) (l h b:Tr),(node v l h).sz+b.sz<=n+1->(node v l h).ok->b.ok->v<b.top->(∀c,(node v l h).ev c=b.ev c)->False:=by
   rintro v l h b hn ⟨h0,h1,h2,h3,h4,h5⟩ hb hv he;have hp:=jR b;simp only [sz] at hn;refine h3 (ih l h (by omega) h4 h5 λc=> ?_);have e1:=he (c.set v false);have e2:=he (c.set v true);rw [jS hb hv] at e1 e2;have f1:(node v l h).ev (c.set v false)=l.ev c:=by simp only [ev];rw [if_neg (by simp [Cf.set]),jS h4 h1]
   have f2:(node v l h).ev (c.set v true)=h.ev c:=by simp only [ev];rw [if_pos (by simp [Cf.set]),jS h5 h2]
   rw [<- f1,<- f2,e1,e2]
  intro a b hn ha hb he;cases a with
  |leaf x=>
   cases b with
   |leaf y=>exact congrArg leaf (he (λ_=>false))
   |node v l h=>exact (key v l h (leaf x) (by omega) hb trivial hb.1 (λc=>(he c).symm)).elim
  |node v l h=>
   by_cases h1:v<b.top
   ·exact (key v l h b hn ha hb h1 he).elim
   cases b with
   |leaf y=>exact (h1 ha.1).elim
   |node w l' h'=>
    simp only [top] at h1;by_cases h2:w<v
    ·exact (key w l' h' (node v l h) (by omega) hb ha h2 (λc=>(he c).symm)).elim
    obtain rfl:v=w:=by omega
    obtain ⟨h0,a1,a2,a3,a4,a5⟩:=ha;obtain ⟨_,b1,b2,b3,b4,b5⟩:=hb;simp only [sz] at hn;have e1:l=l':=ih l l' (by omega) a4 b4 λc=>by have:=he (c.set v false);simp only [ev] at this;rw [if_neg (by simp [Cf.set]),if_neg (by simp [Cf.set]),jS a4 a1,jS b4 b1] at this;exact this
    have e2:h=h':=ih h h' (by omega) a5 b5 λc=>by have:=he (c.set v true);simp only [ev] at this;rw [if_pos (by simp [Cf.set]),if_pos (by simp [Cf.set]),jS a5 a2,jS b5 b2] at this;exact this
    rw [e1,e2]
theorem dC {a b:Tr} (ha:a.ok) (hb:b.ok) (he:∀c,a.ev c=b.ev c):a=b:=MY _ a b (SC _) ha hb he
theorem zI {v:Nat} {l h:Tr} (hv:v<64) (h1:v<l.top) (h2:v<h.top) (h3:l.ok) (h4:h.ok):(mk v l h).ok:=by
 unfold mk;split
 ·exact h3
 ·rename_i hn;exact ⟨hv,h1,h2,hn,h3,h4⟩
theorem J9 {v:Nat} {l h:Tr} (h1:v<l.top):v<=(mk v l h).top:=by
 unfold mk;split
 ·omega
 ·exact SC _
theorem Is (v:Nat) (l h:Tr) (c:Cf):(mk v l h).ev c=if c v=true then h.ev c else l.ev c:=by
 unfold mk;split
 ·rename_i e;subst e;simp
 ·rfl
theorem cd {t:Tr} (h:t.ok) {v:Nat} (hv:v<=t.top):(lo v t).ok/\(v<64->v<(lo v t).top)/\(lo v t).sz<=t.sz/\(t.top=v->t.isL=false->(lo v t).sz<t.sz)/\
  ∀c,c v=false->(lo v t).ev c=t.ev c:=by
 cases t with
 |leaf b=>exact ⟨trivial,λh=>h,SC _,λ_ h=>(by cases h),λ_ _=>rfl⟩
 |node w l r=>
  obtain ⟨h0,h1,h2,h3,h4,h5⟩:=h;simp only [lo];split
  ·rename_i e;subst e;refine ⟨h4,λ_=>h1,by simp only [sz];omega,λ_ _=>by simp only [sz];omega,λc hc=> ?_⟩;simp [ev,hc]
  ·rename_i e;refine ⟨⟨h0,h1,h2,h3,h4,h5⟩,λ_=> ?_,SC _,λhe=> ?_,λ_ _=>rfl⟩
   ·simp only [top] at hv ⊢;omega
   ·simp only [top] at he;omega
theorem ce {t:Tr} (h:t.ok) {v:Nat} (hv:v<=t.top):(hi v t).ok/\(v<64->v<(hi v t).top)/\(hi v t).sz<=t.sz/\(t.top=v->t.isL=false->(hi v t).sz<t.sz)/\
  ∀c,c v=true->(hi v t).ev c=t.ev c:=by
 cases t with
 |leaf b=>exact ⟨trivial,λh=>h,SC _,λ_ h=>(by cases h),λ_ _=>rfl⟩
 |node w l r=>
  obtain ⟨h0,h1,h2,h3,h4,h5⟩:=h;simp only [hi];split
  ·rename_i e;subst e;refine ⟨h5,λ_=>h2,by simp only [sz];omega,λ_ _=>by simp only [sz];omega,λc hc=> ?_⟩;simp [ev,hc]
  ·rename_i e;refine ⟨⟨h0,h1,h2,h3,h4,h5⟩,λ_=> ?_,SC _,λhe=> ?_,λ_ _=>rfl⟩
   ·simp only [top] at hv ⊢;omega
   ·simp only [top] at he;omega
abbrev Op3:=Bool->Bool->Bool->Bool
def aS (a b d:Tr):Nat:=min (min a.top b.top) d.top
theorem MZ (o:Op3):∀(n:Nat) (a b d:Tr),a.sz+b.sz+d.sz<=n->a.ok->b.ok->d.ok->
  ∃t:Tr,t.ok/\aS a b d<=t.top/\∀c,t.ev c=o (a.ev c) (b.ev c) (d.ev c):=by
 intro n;induction n with
 |zero=>intro a b d hn;have:=jR a;omega
 |succ n ih=>
  intro a b d hn ha hb hd;by_cases hv:aS a b d<64
  ·have v1:aS a b d<=a.top:=by unfold aS;omega
   have v2:aS a b d<=b.top:=by unfold aS;omega
   have v3:aS a b d<=d.top:=by unfold aS;omega
   have hcase:aS a b d=a.top\/aS a b d=b.top\/aS a b d=d.top:=by unfold aS;omega
   revert hcase;revert v1 v2 v3 hv;generalize aS a b d=v;intro hv v1 v2 v3 hcase;have nl:∀{t:Tr},v=t.top->t.isL=false:=λ{t} e=>by
    cases t with
    |leaf b=>simp only [top] at e;omega
    |node _ _ _=>rfl
   obtain ⟨al1,al2,al3,al4,al5⟩:=cd ha v1;obtain ⟨bl1,bl2,bl3,bl4,bl5⟩:=cd hb v2;obtain ⟨dl1,dl2,dl3,dl4,dl5⟩:=cd hd v3;obtain ⟨ah1,ah2,ah3,ah4,ah5⟩:=ce ha v1;obtain ⟨bh1,bh2,bh3,bh4,bh5⟩:=ce hb v2;obtain ⟨dh1,dh2,dh3,dh4,dh5⟩:=ce hd v3;have hsl:(lo v a).sz+(lo v b).sz+(lo v d).sz<=n:=by
    rcases hcase with e|e|e
    ·have:=al4 e.symm (nl e);omega
    ·have:=bl4 e.symm (nl e);omega
    ·have:=dl4 e.symm (nl e);omega
   have hsh:(hi v a).sz+(hi v b).sz+(hi v d).sz<=n:=by
    rcases hcase with e|e|e
    ·have:=ah4 e.symm (nl e);omega
    ·have:=bh4 e.symm (nl e);omega
    ·have:=dh4 e.symm (nl e);omega
   obtain ⟨tl,l1,l2,l3⟩:=ih _ _ _ hsl al1 bl1 dl1;obtain ⟨th,h1,h2,h3⟩:=ih _ _ _ hsh ah1 bh1 dh1;have l2':v<tl.top:=by have:=al2 hv;have:=bl2 hv;have:=dl2 hv;unfold aS at l2;omega
   have h2':v<th.top:=by have:=ah2 hv;have:=bh2 hv;have:=dh2 hv;unfold aS at h2;omega
   refine ⟨mk v tl th,zI hv l2' h2' l1 h1,J9 l2',λc=> ?_⟩;rw [Is];split
   ·rename_i hc;rw [h3,ah5 c hc,bh5 c hc,dh5 c hc]
   ·rename_i hc;have hc:c v=false:=by simpa using hc
    rw [l3,al5 c hc,bl5 c hc,dl5 c hc]
  ·have isl:∀{t:Tr},t.ok->64<=t.top->∃b,t=leaf b:=λ{t} ht h64=>by
    cases t with
    |leaf b=>exact ⟨b,rfl⟩
    |node _ _ _=>have:=ht.1;simp only [top] at h64;omega
   unfold aS at hv;obtain ⟨x,rfl⟩:=isl ha (by omega);obtain ⟨y,rfl⟩:=isl hb (by omega);obtain ⟨z,rfl⟩:=isl hd (by omega);exact ⟨leaf (o x y z),trivial,by simp [aS,top],λc=>rfl⟩
noncomputable def can (f:Cf->Bool):Tr:=open Classical in if h:∃t:Tr,t.ok/\∀c,t.ev c=f c then h.choose else leaf false
theorem tW {f:Cf->Bool} {t:Tr} (h:t.ok) (he:∀c,t.ev c=f c):can f=t:=by have hx:∃t:Tr,t.ok/\∀c,t.ev c=f c:=⟨t,h,he⟩;unfold can;rw [dif_pos hx];exact dC hx.choose_spec.1 h λc=>(hx.choose_spec.2 c).trans (he c).symm
noncomputable def ap (o:Op3) (a b d:Tr):Tr:=can λc=>o (a.ev c) (b.ev c) (d.ev c)
section
variable {o:Op3} {a b d:Tr} (ha:a.ok) (hb:b.ok) (hd:d.ok)
include ha hb hd
theorem eU:(ap o a b d).ok/\aS a b d<=(ap o a b d).top/\∀c,(ap o a b d).ev c=o (a.ev c) (b.ev c) (d.ev c):=by obtain ⟨t,h1,h2,h3⟩:=MZ o _ a b d (SC _) ha hb hd;have:ap o a b d=t:=tW h1 h3;rw [this];exact ⟨h1,h2,h3⟩
theorem C6:(ap o a b d).ok:=(eU ha hb hd).1
theorem tX (hv:aS a b d<64):ap o a b d=mk (aS a b d) (ap o (lo (aS a b d) a) (lo (aS a b d) b) (lo (aS a b d) d)) (ap o (hi (aS a b d) a) (hi (aS a b d) b) (hi (aS a b d) d)):=by
 have v1:aS a b d<=a.top:=by unfold aS;omega
 have v2:aS a b d<=b.top:=by unfold aS;omega
 have v3:aS a b d<=d.top:=by unfold aS;omega
 revert v1 v2 v3 hv;generalize aS a b d=v;intro hv v1 v2 v3;obtain ⟨al1,al2,al3,al4,al5⟩:=cd ha v1;obtain ⟨bl1,bl2,bl3,bl4,bl5⟩:=cd hb v2;obtain ⟨dl1,dl2,dl3,dl4,dl5⟩:=cd hd v3;obtain ⟨ah1,ah2,ah3,ah4,ah5⟩:=ce ha v1;obtain ⟨bh1,bh2,bh3,bh4,bh5⟩:=ce hb v2;obtain ⟨dh1,dh2,dh3,dh4,dh5⟩:=ce hd v3;obtain ⟨l1,l2,l3⟩:=eU (o:=o) al1 bl1 dl1;obtain ⟨h1,h2,h3⟩:=eU (o:=o) ah1 bh1 dh1;have l2':v<(ap o (lo v a) (lo v b) (lo v d)).top:=by have:=al2 hv;have:=bl2 hv;have:=dl2 hv;unfold aS at l2;omega
 have h2':v<(ap o (hi v a) (hi v b) (hi v d)).top:=by have:=ah2 hv;have:=bh2 hv;have:=dh2 hv;unfold aS at h2;omega
 refine tW (zI hv l2' h2' l1 h1) λc=> ?_;rw [Is];split
 ·rename_i hc;rw [h3,ah5 c hc,bh5 c hc,dh5 c hc]
 ·rename_i hc;have hc:c v=false:=by simpa using hc
  rw [l3,al5 c hc,bl5 c hc,dl5 c hc]
end
theorem kG (o:Op3) (x y z:Bool):ap o (leaf x) (leaf y) (leaf z)=leaf (o x y z):=tW trivial λ_=>rfl
theorem fW {t:Tr} (ht:t.ok) (h64:64<=t.top):∃b,t=leaf b:=by
 cases t with
 |leaf b=>exact ⟨b,rfl⟩
 |node _ _ _=>have:=ht.1;simp only [top] at h64;omega
end Tr
end Go.Proofs.YtcemhghkipgdiaaGreatDoor
namespace Go.Proofs.YtcemhghkipgdiaaGreatDoor
open Tr
structure Br where
 v:Int
 l:Int
 h:Int
deriving DecidableEq
def inn (S:List Tr) (t:Tr):Prop:=t.isL=true\/t∈S
def num (S:List Tr):Tr->Nat
 |leaf b=>if b then 1 else 0
 |node v l h=>S.idxOf (node v l h)+2
def br (S:List Tr):Tr->Br
 |leaf _=>⟨0,0,0⟩
 |node v l h=>⟨(v:Int),(num S l:Int),(num S h:Int)⟩
def brs (S:List Tr):List Br:=S.map (br S)
inductive Cl:List Tr->Prop
 |nil:Cl []
 |snoc {S:List Tr} {v:Nat} {l h:Tr}:Cl S->inn S l->inn S h->(node v l h).ok->node v l h ∉ S->Cl (S++[node v l h])
theorem bQ {S X:List Tr} {t:Tr} (h:inn S t):inn (S++X) t:=h.imp id λh=>Uf X h
theorem fJ (S:List Tr) (b:Bool):inn S (leaf b):=.inl rfl
theorem cC {S:List Tr} {t:Tr} (h:inn S t) (hn:t.isL=false):t∈S:=h.resolve_left (by rw [hn];exact TX)
theorem bJ {S X:List Tr} {t:Tr} (h:inn S t):num (S++X) t=num S t:=by
 cases t with
 |leaf b=>rfl
 |node v l r=>have hm:=cC h rfl;simp only [num,List.idxOf_append,hm,if_true]
namespace Cl
theorem mem {S:List Tr} (h:Cl S):∀t∈S,t.ok/\∃v l r,t=node v l r/\inn S l/\inn S r:=by
 induction h with
 |nil=>intro t ht;cases ht
 | @snoc S v l r hS hl hr hk hn ih=>
  intro t ht;rcases SD.1 ht with ht|ht
  ·obtain ⟨h1,v',l',r',h2,h3,h4⟩:=ih t ht;exact ⟨h1,v',l',r',h2,bQ h3,bQ h4⟩
  ·obtain rfl:=SA.1 ht;exact ⟨hk,v,l,r,rfl,bQ hl,bQ hr⟩
theorem nodup {S:List Tr} (h:Cl S):S.Nodup:=by
 induction h with
 |nil=>exact List.nodup_nil
 | @snoc S v l r hS hl hr hk hn ih=>rw [S7];refine ⟨ih,by simp,?_⟩;intro a ha b hb;rw [SA] at hb;subst hb;rintro rfl;exact hn ha
theorem inn_ok {S:List Tr} (h:Cl S) {t:Tr} (ht:inn S t):t.ok:=by
 cases t with
 |leaf b=>trivial
 |node v l r=>exact (h.mem _ (cC ht rfl)).1
theorem inn_kids {S:List Tr} (h:Cl S) {v:Nat} {l r:Tr} (ht:inn S (node v l r)):inn S l/\inn S r:=by obtain ⟨_,v',l',r',e,h3,h4⟩:=h.mem _ (cC ht rfl);cases e;exact ⟨h3,h4⟩
theorem inn_lo {S:List Tr} (h:Cl S) {t:Tr} (ht:inn S t) (v:Nat):inn S (lo v t):=by
 cases t with
 |leaf b=>exact ht
 |node w l r=>
  simp only [lo];split
  ·exact (h.inn_kids ht).1
  ·exact ht
theorem inn_hi {S:List Tr} (h:Cl S) {t:Tr} (ht:inn S t) (v:Nat):inn S (hi v t):=by
 cases t with
 |leaf b=>exact ht
 |node w l r=>
  simp only [hi];split
  ·exact (h.inn_kids ht).2
  ·exact ht
end Cl
theorem eG {S:List Tr} {t:Tr} (h:inn S t):num S t<=S.length+1:=by
 cases t with
 |leaf b=>simp only [num];split<;>omega
 |node v l r=>have:=List.idxOf_lt_length_of_mem (cC h rfl);simp only [num];omega
theorem dO {S:List Tr} {t:Tr} (h:t.isL=false):2<=num S t:=by
 cases t with
 |leaf b=>cases h
 |node v l r=>simp only [num];omega
theorem og {S:List Tr} {t:Tr} (h:num S t<2):t.isL=true:=by
 cases t with
 |leaf b=>rfl
 |node v l r=>simp only [num] at h;omega
theorem dg (S:List Tr) (b:Bool):num S (leaf b)<=1:=by simp only [num];split<;>omega
theorem ft {S:List Tr} {t:Tr} (h:t∈S) (hl:t.isL=false):S[num S t - 2]? =some t:=by
 cases t with
 |leaf b=>cases hl
 |node v l r=>have h1:=List.idxOf_lt_length_of_mem h;simp only [num,Nat.add_sub_cancel];rw [N5 h1,List.getElem_idxOf]
theorem cD {S:List Tr} {t u:Tr} (ht:inn S t) (hu:inn S u) (h:num S t=num S u):t=u:=by
 cases ht':t.isL with
 |true=>
  cases hu':u.isL with
  |true=>
   cases t with
   |node _ _ _=>cases ht'
   |leaf a=>
    cases u with
    |node _ _ _=>cases hu'
    |leaf b=>simp only [num] at h;cases a<;>cases b<;>simp at h ⊢
  |false=>
   have h1:=dO (S:=S) hu';cases t with
   |node _ _ _=>cases ht'
   |leaf a=>have h2:num S (leaf a)<=1:=dg S a;omega
 |false=>
  cases hu':u.isL with
  |true=>
   have h1:=dO (S:=S) ht';cases u with
   |node _ _ _=>cases hu'
   |leaf a=>have h2:num S (leaf a)<=1:=dg S a;omega
  |false=>have h1:=ft (cC ht ht') ht';have h2:=ft (cC hu hu') hu';rw [h,h2] at h1;exact (SY h1).symm
theorem dP {S:List Tr} (hS:Cl S) {k:Nat} {t:Tr} (h:S[k]? =some t):num S t=k+2:=by
 have hk:k<S.length:=(N6.1 h).1;have hm:t∈S:=SE h;obtain ⟨_,v,l,r,rfl,_⟩:=hS.mem t hm;have h1:=List.idxOf_lt_length_of_mem hm;have h2:S[S.idxOf (node v l r)]=S[k]:=by rw [List.getElem_idxOf];exact (N6.1 h).2.symm
 have:=(List.getElem_inj hS.nodup).1 h2;simp only [num];omega
def tr (S:List Tr) (n:Nat):Tr:=
 if n=0 then leaf false else if n=1 then leaf true else S.getD (n - 2) (leaf false)
theorem gi {S:List Tr} {n:Nat} (h:n<=S.length+1):inn S (tr S n):=by
 unfold tr;split
 ·exact fJ _ _
 ·split
  ·exact fJ _ _
  ·refine .inr ?_;rw [Td,N5 (by omega)];exact TY _
theorem fK {S:List Tr} (hS:Cl S) {n:Nat} (h:n<=S.length+1):num S (tr S n)=n:=by
 unfold tr;split
 ·rename_i e;subst e;rfl
 ·split
  ·rename_i e;subst e;rfl
  ·have hk:n - 2<S.length:=by omega
   have:=dP hS (k:=n - 2) (t:=S[n - 2]) (N5 hk);rw [Td,N5 hk];simp only [Option.getD_some];omega
theorem mh {S:List Tr} (hS:Cl S) {t:Tr} (h:inn S t):tr S (num S t)=t:=
 cD (gi (eG h)) h (fK hS (eG h))
theorem BF {S X:List Tr} (hS:Cl S) {t:Tr} (h:t∈S):br (S++X) t=br S t:=by obtain ⟨_,v,l,r,rfl,hl,hr⟩:=hS.mem t h;simp only [br,bJ hl,bJ hr]
theorem pL {S X:List Tr} (hS:Cl S):brs (S++X)=brs S++X.map (br (S++X)):=by unfold brs;rw [Tf];congr 1;exact Uk λt ht=>BF hS ht
theorem d7 {S:List Tr} (hS:Cl S) {v:Nat} {l r:Tr} (hl:inn S l) (hr:inn S r):brs (S++[node v l r])=brs S++[⟨(v:Int),(num S l:Int),(num S r:Int)⟩]:=by rw [pL hS];simp only [S4,List.map_nil,br,bJ hl,bJ hr]
theorem aN (S:List Tr):(brs S).length=S.length:=by simp [brs]
theorem oo {S:List Tr} {k:Nat} {t:Tr} (h:S[k]? =some t):(brs S)[k]? =some (br S t):=by simp [brs,h]
theorem C7 {S:List Tr} (hS:Cl S) {t u:Tr} (ht:t∈S) (hu:u∈S) (h:br S t=br S u):t=u:=by obtain ⟨_,v,l,r,rfl,hl,hr⟩:=hS.mem t ht;obtain ⟨_,v',l',r',rfl,hl',hr'⟩:=hS.mem u hu;simp only [br,Br.mk.injEq] at h;obtain ⟨h1,h2,h3⟩:=h;rw [cD hl hl' (by omega),cD hr hr' (by omega),show v=v' by omega]
theorem oq {S T:List Tr} (hS:Cl S):Cl T->brs S=brs T->S=T:=by
 intro hT;induction hS generalizing T with
 |nil=>
  intro h;cases T with
  |nil=>rfl
  |cons a b=>have:=congrArg List.length h;simp [brs] at this
 | @snoc S v l r hS hl hr hk hn ih=>
  intro h;cases hT with
  |nil=>have:=congrArg List.length h;simp [brs] at this
  | @snoc T v' l' r' hT hl' hr' hk' hn'=>rw [d7 hS hl hr,d7 hT hl' hr'] at h;obtain ⟨h1,h2⟩:=List.append_inj' h rfl;obtain rfl:=ih hT h1;simp only [List.cons.injEq,Br.mk.injEq,and_true] at h2;obtain ⟨h3,h4,h5⟩:=h2;rw [cD hl hl' (by omega),cD hr hr' (by omega),show v=v' by omega]
def vis:Tr->List Tr->List Tr
 |leaf _,S=>S
 |node v l h,S=>if node v l h∈S then S else vis h (vis l S)++[node v l h]
theorem fX {S:List Tr} {t:Tr} (h:inn S t):vis t S=S:=by
 cases t with
 |leaf b=>rfl
 |node v l r=>unfold vis;rw [if_pos (cC h rfl)]
theorem bo:∀(t:Tr) (S:List Tr),t.ok->Cl S->Cl (vis t S)/\inn (vis t S) t/\(∃X,vis t S=S++X/\∀x∈X,x.sz<=t.sz)
 |leaf b,S,_,hS=>⟨hS,fJ _ _,[],by simp [vis],λx h=>by cases h⟩
 |node v l r,S,hk,hS=>by
  unfold vis;split
  ·rename_i hm;exact ⟨hS,.inr hm,[],by simp,λx h=>by cases h⟩
  ·rename_i hm;obtain ⟨h1,h2,X,h3,h4⟩:=bo l S hk.2.2.2.2.1 hS;obtain ⟨g1,g2,Y,g3,g4⟩:=bo r (vis l S) hk.2.2.2.2.2 h1;have hn:node v l r ∉ vis r (vis l S):=by
    rw [g3,h3];intro hc;rcases SD.1 hc with hc|hc
    ·rcases SD.1 hc with hc|hc
     ·exact hm hc
     ·have:=h4 _ hc;simp only [sz] at this;omega
    ·have:=g4 _ hc;simp only [sz] at this;omega
   refine ⟨.snoc g1 (by rw [g3];exact bQ h2) g2 hk hn,.inr (by simp),X++Y++[node v l r],by rw [g3,h3];simp,λx hx=> ?_⟩;simp only [SD,SA,or_assoc] at hx;rcases hx with hx|hx|hx
   ·have:=h4 x hx;simp only [sz];omega
   ·have:=g4 x hx;simp only [sz];omega
   ·rw [hx];exact SC _
def be (t:Tr):List Tr:=vis t []
theorem bC {t:Tr} (h:t.ok):Cl (be t):=(bo t [] h .nil).1
theorem bO {t:Tr} (h:t.ok):inn (be t) t:=(bo t [] h .nil).2.1
abbrev Dia:=List Br×Int
def dia (t:Tr):Dia:=(brs (be t),(num (be t) t:Int))
theorem ot {t u:Tr} (ht:t.ok) (hu:u.ok) (h:dia t=dia u):t=u:=by unfold dia at h;simp only [Us] at h;obtain ⟨h1,h2⟩:=h;have h3:=oq (bC ht) (bC hu) h1;rw [<- h3] at h2;refine cD (bO ht) ?_ (by omega);rw [h3];exact bO hu
def cnt:Tr->Nat
 |leaf _=>0
 |node _ l h=>cnt l+cnt h+1
theorem jU:∀(t:Tr) (S:List Tr),(vis t S).length<=S.length+cnt t
 |leaf _,_=>SC _
 |node v l r,S=>by
  unfold vis;split
  ·omega
  ·have h1:=jU l S;have h2:=jU r (vis l S);simp only [SF,SO,cnt];omega
theorem ni (t:Tr):(be t).length<=cnt t:=by have:=jU t [];simpa [be] using this
end Go.Proofs.YtcemhghkipgdiaaGreatDoor
namespace Go.Proofs.YtcemhghkipgdiaaGreatDoor
open Go Go.Proofs.Tryz
theorem sz3:tsz prog 3=some (1,8):=by kernel_rfl
theorem M0:tsz prog 31=some (2,32):=by kernel_rfl
theorem QI:tsz prog 39=some (1,24):=by kernel_rfl
theorem M1:tsz prog 55=some (13,160):=by kernel_rfl
theorem M2:tsz prog 63=some (2,16):=by kernel_rfl
theorem QJ:tsz prog 69=some (4,64):=by kernel_rfl
theorem vN:tsz prog 124=some (3,24):=by kernel_rfl
theorem M3:tsz prog 146=some (7,112):=by kernel_rfl
theorem M4:tsz prog 156=some (9,104):=by kernel_rfl
theorem It:tsz prog 215=some (3,24):=by kernel_rfl
theorem zr3:bP prog 3=some (Value.int .i64 0):=by kernel_rfl
theorem FS:bP prog 31=some (Value.agg (#[Value.slice none 0 0,Value.int .i64 0])):=by kernel_rfl
theorem QM:bP prog 39=some (Value.slice none 0 0):=by kernel_rfl
theorem M5:bP prog 55=some (Value.agg (#[Value.string ⟨#[]⟩,Value.int .i64 0,Value.slice none 0 0,Value.slice none 0 0,Value.int .i64 0,Value.bool false,Value.int .i64 0,Value.slice none 0 0,Value.bool false,Value.int .i64 0,Value.int .i64 0,Value.int .i64 0,Value.int .i64 0])):=by kernel_rfl
theorem M6:bP prog 63=some (Value.agg (#[Value.bool false,Value.int .i64 0])):=by kernel_rfl
theorem QN:bP prog 69=some (Value.agg (#[Value.slice none 0 0,Value.int .i64 0,Value.slice none 0 0,Value.int .i64 0])):=by kernel_rfl
theorem vO:bP prog 124=some (Value.agg (#[Value.int .i64 0,Value.int .i64 0,Value.int .i64 0])):=by kernel_rfl
theorem M7:bP prog 146=some (Value.agg (#[Value.string ⟨#[]⟩,Value.int .i64 0,Value.string ⟨#[]⟩,Value.slice none 0 0,Value.string ⟨#[]⟩,Value.slice none 0 0,Value.int .i64 0])):=by kernel_rfl
theorem M8:bP prog 156=some (Value.agg (#[Value.int .i64 0,Value.int .i64 0,Value.int .i64 0,Value.int .i64 0,Value.int .i64 0,Value.int .i64 0,Value.slice none 0 0,Value.slice none 0 0,Value.int .i64 0])):=by kernel_rfl
theorem Iu:bP prog 215=some (Value.agg (#[Value.int .i64 0,Value.int .i64 0,Value.int .i64 0])):=by kernel_rfl
section
variable {P:Program} {n:Nat} {Q:Exit->En->Ψ} {E:En} {F:PH} {ops:Array Oper} {l:List Oper} {d:Tmp} {op:Op} {ty:TypeId} {pos:String} {aft:Array Edge} {gd:Option (Nat×Bool)}
theorem QO {fn:Func} {r r' r'' r3:ResultVar} {v v' v'' v3:Value} (h:fn.results= #[r,r',r'',r3]) (hv:jV P E F r v) (hv':jV P E F r' v') (hv'':jV P E F r'' v'') (hv3:jV P E F r3 v3):pQ P fn E F (.tuple #[v,v',v'',v3]):=λe w tmps st ht=>by have k:=gj hv st ht;have k':=gj hv' st ht;have k'':=gj hv'' st ht;have k3:=gj hv3 st ht;clear ht hv hv' hv'' hv3;rcases k with ⟨t,rfl,h1⟩|⟨x,t,a,rfl,h1,h2⟩<;>rcases k' with ⟨t',rfl,h3⟩|⟨x',t',a',rfl,h3,h4⟩<;>rcases k'' with ⟨t'',rfl,h5⟩|⟨x'',t'',a'',rfl,h5,h6⟩<;>rcases k3 with ⟨t3,rfl,h7⟩|⟨x3,t3,a3,rfl,h7,h8⟩<;>simp [results,asAddr, *]
end
section
variable {P:Program} {F:PH} {E:En} {o:Oper} {x y:Operand} {t t':TypeId}
theorem Ka {c d:ByteArray} (ho:o.op=.binOp .add t x y t') (hx:ev E x=.string c) (hy:ev E y=.string d) (h:c.size+d.size<=9223372036854775807):RD P E F o (.string (c++d)):=by
 have e:IntKind.i64.max=9223372036854775807:=by decide
 have hn:¬(((c.size+d.size:Nat):Int)>IntKind.i64.max):=by rw [e];omega
 simp only [RD,execOp,ho,hx,hy,ai];refine ⟨.string (c++d),⟨(),bU rfl,?_⟩,rfl⟩;show rdo P (Op.stringOp .add c d) F _;unfold Op.stringOp;simp only [if_neg hn];rfl
theorem Kb {c d:ByteArray} (ho:o.op=.binOp .lss t x y t') (hx:ev E x=.string c) (hy:ev E y=.string d):RD P E F o (.bool (Op.bytesLess c.toList d.toList)):=by simp only [RD,execOp,ho,hx,hy,ai];exact ⟨_,⟨(),bU rfl,rfl⟩,rfl⟩
theorem Kc {c d:ByteArray} (ho:o.op=.binOp .geq t x y t') (hx:ev E x=.string c) (hy:ev E y=.string d):RD P E F o (.bool (!Op.bytesLess c.toList d.toList)):=by simp only [RD,execOp,ho,hx,hy,ai];exact ⟨_,⟨(),bU rfl,rfl⟩,rfl⟩
theorem C8 {e:TypeId} {v:Value} {s:ByteArray} (ho:o.op=.convert t t' x) (hx:ev E x=v) (h1:P.underlying t=some (.slice e)) (h2:P.underlying t'=some .string) (h3:P.underlying e=some (.int .u8))
  (hv:∃b l c,v=.slice b l c) (h:rdo P (Conv.bytesToString v) F (.string s)):RD P E F o (.string s):=by
 obtain ⟨b,l,c,rfl⟩:=hv;simp only [RD,execOp,ho,hx,ai,convert];refine ⟨_,⟨_,(av h1 _).2 rfl,_,(av h2 _).2 rfl,?_⟩,rfl⟩;cases b<;>(simp only [ai];exact ⟨_,(av h3 _).2 rfl,h⟩)
variable {K:En->Ψ} {d:Tmp} {ty:TypeId} {pos:String} {aft:Array Edge} {gd:Option (Nat×Bool)}
theorem C9 {m:Option Nat} {r:Value} (ho:o.op=.call {callee:=.builtin .len,args:= #[x],argTypes:= #[t]}) (hx:ev E x=.map m) (h:rdo P (Builtin.len_ #[t] o.type #[.map m]) F r):RD P E F o r:=by simp [RD,execOp,ho,resolve,invoke,builtin,hx];exact h
theorem FT {v r:Value} (ho:o.op=.entry x) (hx:ev E x=v) (h:rdo P (Instr.entry v) F r):RD P E F o r:=by simp only [RD,execOp,ho,hx,ai];exact ⟨_,h,rfl⟩
end
end Go.Proofs.YtcemhghkipgdiaaGreatDoor

/-
  A program logic over partial heaps: strings put together, compared, made of bytes; ranges over strings.
-/
import Derived.Test.YtenpmjhnhepfdaaGreatDoorPhm
import Derived.Orders
import Derived.Test.YtenpmjhnhepfdaaGreatDoorProg
import Derived.KernelRfl
namespace Go.Proofs.YtenpmjhnhepfdaaGreatDoor
open Go
theorem st1 {F:PH} {b o:Nat} {v:Value} {c:Array Value} {e:TypeId} {K:PH->Prop} (h:F b=some (.cells c e (0,0))) (hl:o<c.size) (k:K (F.set b (.cells (c.setIfInBounds o v) e))):
  ∃c e,F (Addr.mk b o none).block=some (.cells c e (0,0))/\(Addr.mk b o none).spot=none/\(Addr.mk b o none).off<c.size/\
   atF (F.set (Addr.mk b o none).block (.cells (c.setIfInBounds (Addr.mk b o none).off v) e)) K:=⟨c,e,h,rfl,hl,k⟩
theorem oY {F:PH} {A:Addr} {b o:Nat} {v:Value} {c:Array Value} {e:TypeId} {K:PH->Prop} (hA:A=⟨b,o,none⟩) (h:F b=some (.cells c e (0,0))) (hl:o<c.size) (k:K (F.set b (.cells (c.setIfInBounds o v) e))):
  ∃c e,F A.block=some (.cells c e (0,0))/\A.spot=none/\A.off<c.size/\atF (F.set A.block (.cells (c.setIfInBounds A.off v) e)) K:=by
 subst hA;exact st1 h hl k
theorem DF {c d:Array Value} (h:c.size=d.size):wr c 0 d.toList=d:=by
 apply Array.ext
 ·rw [dH,h]
 ·intro i h1 h2
  have:=tT d.toList c 0 i (by simp [h])
  rw [if_pos (by simp;omega)] at this
  simp only [Nat.sub_zero] at this
  rw [Array.getElem?_eq_getElem h1] at this
  simp at this
  rw [Array.getElem?_eq_getElem h2] at this
  exact Option.some.inj this
theorem stW {F:PH} {b n:Nat} {v c:Array Value} {e:TypeId} {K:PH->Prop} (h:F b=some (.cells c e (0,0))) (hs:v.size=n) (hc:c.size=n) (hst:∀x∈v.toList,ai x) (k:K (F.set b (.cells v e))):
  v.size=n/\(∀x∈v.toList,ai x)/\∃c e,F (Addr.mk b 0 none).block=some (.cells c e (0,0))/\(Addr.mk b 0 none).spot=none/\(Addr.mk b 0 none).off+n<=c.size/\
   atF (F.set (Addr.mk b 0 none).block (.cells (wr c (Addr.mk b 0 none).off v.toList) e)) K:=
 ⟨hs,hst,c,e,h,rfl,by simp [hc],by
  unfold atF
  rw [show (Addr.mk b 0 none).off=0 from rfl,DF (by rw [hc,hs])]
  exact k⟩
theorem zc1 (v:Value) (h:v.cells= #[v]) (n:Nat):Builtin.zeroCells v.cells n=(List.replicate n v).toArray:=by
 rw [nr _ (by rw [h];rfl),h]
 congr 1
 induction n with
 |zero=>rfl
 |succ n ih=>simp [List.replicate_succ,ih]
theorem Oe {n:Nat} (h:n<=9223372036854775807):IntKind.i64.wrap (n:Int)=n:=aN (by omega) (by omega)
theorem fd {n:Nat} (h:n<9223372036854775807):IntKind.i64.wrap ((n:Int)+1)=((n+1:Nat):Int):=by rw [aN (by omega) (by omega)];omega
theorem fQ (vs:List Value):∀(c:List Value) (o:Nat),o+vs.length<=c.length->wr c.toArray o vs=(c.take o++vs++c.drop (o+vs.length)).toArray:=by
 intro c o h
 apply Array.ext
 ·rw [dH];simp;omega
 ·intro i h1 h2
  have:=tT vs c.toArray o i (by simpa using h)
  rw [Array.getElem?_eq_getElem h1] at this
  rw [dH] at h1
  simp only [List.size_toArray] at h1
  have h3:(c.take o++vs++c.drop (o+vs.length)).toArray[i]=(c.take o++vs++c.drop (o+vs.length))[i]'(by simpa using h2):=by simp
  rw [h3]
  apply Option.some.inj
  rw [<- List.getElem?_eq_getElem,this]
  by_cases hi:i<o
  ·rw [if_neg (by omega),List.append_assoc,List.getElem?_append_left (by simp;omega)]
   simp [hi]
  ·by_cases hj:i<o+vs.length
   ·rw [if_pos ⟨by omega,hj⟩,List.getElem?_append_left (by simp;omega),List.getElem?_append_right (by simp;omega)]
    simp
    congr 1
    omega
   ·rw [if_neg (by omega),List.getElem?_append_right (by simp;omega)]
    simp
    congr 1
    omega
def bA (F:PH) (e size:Nat) (s:Sl) (vs:List Value):Prop:=
 (s=Sl.nil/\vs=[])\/∃b cur,s.base=some ⟨b,0,none⟩/\F b=some (.cells cur e (0,0))/\cur.size=s.cap*size/\s.len<=s.cap/\vs.length=s.len*size/\cur.toList.take (s.len*size)=vs
theorem bA.rd {F:PH} {e size:Nat} {s:Sl} {vs:List Value} (h:bA F e size s vs):RdS F s size vs:=by
 rcases h with ⟨rfl,rfl⟩|⟨b,cur,h1,h2,h3,h4,h5,h6⟩
 ·exact RdS.nil F size
 ·obtain ⟨base,len,cap⟩:=s
  cases h1
  exact RdS.new h2 h6 h5 h4
theorem bA.keep {F G:PH} {e size:Nat} {s:Sl} {vs:List Value} (h:bA F e size s vs) (hk:∀a,s.base=some a->G a.block=F a.block):bA G e size s vs:=by
 rcases h with h|⟨b,cur,h1,h2,h3⟩
 ·exact .inl h
 ·exact .inr ⟨b,cur,h1,(hk _ h1).trans h2,h3⟩
theorem oZ {F:PH} {s x:Sl} {t e size bytes ty:Nat} {z:Value} {P:Program} {olds news:List Value} {Q:Value->PH->Prop} (ht:P.underlying t=some (.slice e)) (hsz:tsz P e=some (size,bytes)) (hz:bk P e=some z) (hzs:z.cells.size=size) (hs0:0<size)
  (ho:bA F e size s olds) (hn:RdS F x size news) (hx:0<x.len) (hst:∀v∈news,ai v) (hfit:(s.len+x.len)*bytes<=140737488355328) (hlen:s.len+x.len<=9223372036854775807)
  (h:∀s' F' b o,F'=F.set b o->bA F' e size s' (olds++news)->s'.len=s.len+x.len->(∀a,s'.base=some a->a.block=b)->((∃a,s.base=some a/\a.block=b)\/F b=none)->Q s'.v F'):
  aE P (Builtin.append_ #[t,t] ty #[s.v,x.v]) F Q:=by
 have hpos:0<x.len*size:=Nat.mul_pos hx hs0
 have hol:=ho.rd.len
 refine iD ht hsz hz hzs ho.rd hn hst hfit hlen (fun h0=>by omega) ?_ ?_
 ·intro _ hroom
  rcases ho with ⟨rfl,rfl⟩|⟨b,cur,h1,h2,h3,h4,h5,h6⟩
  ·simp [Sl.nil] at hroom;omega
  ·have hle:s.len*size+x.len*size<=cur.size:=by rw [h3,<- Nat.add_mul];exact Nat.mul_le_mul_right _ hroom
   refine ⟨b,0,cur,e,h1,h2,by omega,?_⟩
   refine h ⟨_,_,_⟩ _ b _ rfl (.inr ⟨b,_,h1,an _ _ _,by rw [dH,h3],hroom,by simp [h5,hn.len,Nat.add_mul],?_⟩) rfl (fun a ha=>by rw [h1] at ha;cases ha;rfl) (.inl ⟨_,h1,rfl⟩)
   simp only [Nat.zero_add]
   have hw:=fQ news cur.toList (s.len*size) (by simp [hn.len];omega)
   rw [show cur.toList.toArray=cur by simp] at hw
   rw [hw]
   simp only
   rw [h6,Nat.add_mul]
   rw [List.take_append_of_le_length (by simp [h5,hn.len]),List.take_of_length_le (by simp [h5,hn.len])]
 ·intro hgt cap b hc hb
  refine h ⟨_,_,_⟩ _ b _ rfl (.inr ⟨b,_,rfl,an _ _ _,?_,hc,by simp [hol,hn.len,Nat.add_mul],?_⟩) rfl (fun a ha=>by cases ha;rfl) (.inr hb)
  ·simp [Builtin.zeroCells,hzs,hol,hn.len]
   rw [<- Nat.add_mul,<- Nat.add_mul]
   congr 1
   omega
  ·simp only [List.append_toArray,Array.toList_append]
   rw [List.take_append_of_le_length (by simp [hol,hn.len,Nat.add_mul]),List.take_of_length_le (by simp [hol,hn.len,Nat.add_mul])]
theorem mE {F:PH} {s x:Sl} {t e size bytes ty:Nat} {z:Value} {P:Program} {olds news:List Value} {Q:Value->PH->Prop} (ht:P.underlying t=some (.slice e)) (hsz:tsz P e=some (size,bytes)) (hz:bk P e=some z) (hzs:z.cells.size=size)
  (ho:bA F e size s olds) (hn:RdS F x size news) (hx:x.len=0) (hfit:s.len*bytes<=140737488355328) (hlen:s.len<=9223372036854775807)
  (h:Q s.v F):aE P (Builtin.append_ #[t,t] ty #[s.v,x.v]) F Q:=by
 have hnil:news=[]:=List.eq_nil_of_length_eq_zero (by rw [hn.len,hx,Nat.zero_mul])
 subst hnil
 refine iD ht hsz hz hzs ho.rd hn (by simp) (by rw [hx];exact hfit) (by rw [hx];exact hlen) (fun _ _=> ?_) (fun h1=> ?_) (fun h1=> ?_)
 ·rw [hx];exact h
 ·rw [hx] at h1;simp at h1
 ·have:=ho.rd.cap;omega
theorem gK {F0 F:PH} {s x:Sl} {t e size bytes ty:Nat} {z:Value} {P:Program} {olds news:List Value} {Q:Value->PH->Prop} (ht:P.underlying t=some (.slice e)) (hsz:tsz P e=some (size,bytes)) (hz:bk P e=some z) (hzs:z.cells.size=size) (hs0:0<size)
  (hle:F0.le F) (ho:bA F e size s olds) (hnew:∀a,s.base=some a->F0 a.block=none) (hn:RdS F x size news) (hst:∀v∈news,ai v) (hfit:(s.len+x.len)*bytes<=140737488355328) (hlen:s.len+x.len<=9223372036854775807)
  (h:∀s' F',F0.le F'->bA F' e size s' (olds++news)->s'.len=s.len+x.len->(∀a,s'.base=some a->F0 a.block=none)->cf (fun b=>∃a,s.base=some a/\a.block=b) F F'->(∀a,s'.base=some a->(∃a',s.base=some a'/\a'.block=a.block)\/F a.block=none)->Q s'.v F'):
  aE P (Builtin.append_ #[t,t] ty #[s.v,x.v]) F Q:=by
 by_cases h0:x.len=0
 ·have hnil:news=[]:=List.eq_nil_of_length_eq_zero (by rw [hn.len,h0,Nat.zero_mul])
  refine mE ht hsz hz hzs ho hn h0 (by rw [h0] at hfit;exact hfit) (by omega) ?_
  refine h s F hle (by rw [hnil,List.append_nil];exact ho) (by omega) hnew (cf.refl _ _) (fun a ha=> .inl ⟨a,ha,rfl⟩)
 ·refine oZ ht hsz hz hzs hs0 ho hn (by omega) hst hfit hlen ?_
  rintro s' F' b ob rfl ho' hl' hbase hb
  have hb0:F0 b=none:=by
   rcases hb with ⟨a,ha,rfl⟩|hb
   ·exact hnew a ha
   ·exact aV hle hb
  refine h s' _ (fun y o hy=> ?_) ho' hl' (fun a ha=>by rw [hbase a ha];exact hb0) (fun y o hy hn=> ?_) (fun a ha=> ?_)
  ·rw [az _ _ (fun e=>by rw [e,hb0] at hy;cases hy)];exact hle _ _ hy
  ·rw [az]
   ·exact hy
   ·rintro rfl
    rcases hb with hb|hb
    ·exact hn hb
    ·rw [hb] at hy;cases hy
  ·rw [hbase a ha]
   exact hb
theorem aj {F:PH} {b e:Nat} {c:Array Value} {fr:Nat×Nat} (h:F b=some (.cells c e fr)):F.row (Addr.mk b 0 none) c:=by
 intro i hi
 rw [aK,am h]
 simp
theorem aw {F0 F:PH} {b:Nat} {o:Obj} (h:F0.le F) (hb:F0 b=none):F0.le (F.set b o):=fun y o' hy=>by
 rw [az _ _ (fun e=>by rw [e,hb] at hy;cases hy)]
 exact h _ _ hy
theorem ae.upon {P:Program} {f:FuncId} {args:Array Value} {F F2:PH} {R:Value->PH->Prop} (h:ae P f args F R) (hle:F.le F2):
  ae P f args F2 fun v F'=>∃G,R v G/\G.le F'/\∀b o,F b=none->F2 b=some o->F' b=some o/\G b=none:=by
 have e:F2=F.and (fun b=>if (F b).isNone then F2 b else none):=by
  funext b
  cases hf:F b with
  |some o=>rw [PH.and_left hf];exact hle b o hf
  |none=>rw [PH.and_right hf];simp [hf]
 have hb:=h.beside (H:=fun b=>if (F b).isNone then F2 b else none) (fun b o hb=>by
  cases hf:F b with
  |some o'=>simp [hf] at hb
  |none=>rfl)
 rw [<- e] at hb
 refine hb.mono ?_
 rintro v F' ⟨G,hr,rfl,hd⟩
 refine ⟨G,hr,fun b o hb=>PH.and_left hb,fun b o hb ho=> ?_⟩
 have hH:(fun b=>if (F b).isNone then F2 b else none) b=some o:=by simp [hb,ho]
 have hG:=hd b o hH
 exact ⟨(PH.and_right hG).trans hH,hG⟩
end Go.Proofs.YtenpmjhnhepfdaaGreatDoor
namespace Go.Proofs.YtenpmjhnhepfdaaGreatDoor
inductive Tr where
 |leaf (b:Bool)
 |node (v:Nat) (l h:Tr)
deriving DecidableEq
abbrev Cf:=Nat->Bool
def Cf.set (c:Cf) (v:Nat) (b:Bool):Cf:=fun i=>if i=v then b else c i
namespace Tr
def top:Tr->Nat
 |leaf _=>64
 |node v _ _=>v
def ev:Tr->Cf->Bool
 |leaf b,_=>b
 |node v l h,c=>if c v=true then h.ev c else l.ev c
def ok:Tr->Prop
 |leaf _=>True
 |node v l h=>v<64/\v<l.top/\v<h.top/\l≠h/\l.ok/\h.ok
def sz:Tr->Nat
 |leaf _=>1
 |node _ l h=>l.sz+h.sz+1
def mk (v:Nat) (l h:Tr):Tr:=if l=h then l else node v l h
def lo (v:Nat):Tr->Tr
 |leaf b=>leaf b
 |node w l h=>if w=v then l else node w l h
def hi (v:Nat):Tr->Tr
 |leaf b=>leaf b
 |node w l h=>if w=v then h else node w l h
def isL:Tr->Bool
 |leaf _=>true
 |node _ _ _=>false
theorem DG {t:Tr} (h:t.ok) (hl:t.isL=false):t.top<64:=by
 cases t with
 |leaf b=>cases hl
 |node v l r=>exact h.1
theorem o8:∀(t:Tr),0<t.sz
 |leaf _=>Nat.one_pos
 |node _ _ _=>Nat.succ_pos _
theorem o9:∀(t:Tr),t.ok->∀(c d:Cf),(∀i,t.top<=i->c i=d i)->t.ev c=t.ev d
 |leaf _,_,_,_,_=>rfl
 |node v l h,⟨_,h1,h2,_,h4,h5⟩,c,d,hc=>by
  simp only [ev]
  rw [hc v (Nat.le_refl _),o9 l h4 c d (fun i hi=>hc i (by simp only [top];omega)),o9 h h5 c d (fun i hi=>hc i (by simp only [top];omega))]
theorem jR {t:Tr} (h:t.ok) {v:Nat} (hv:v<t.top) (c:Cf) (b:Bool):t.ev (c.set v b)=t.ev c:=
 o9 t h _ _ fun i hi=>by
  unfold Cf.set
  rw [if_neg (by omega)]
theorem Of:∀(n:Nat) (a b:Tr),a.sz+b.sz<=n->a.ok->b.ok->(∀c,a.ev c=b.ev c)->a=b:=by
 intro n
 induction n with
 |zero=>intro a b hn;have:=o8 a;omega
 |succ n ih=>
  have key:∀(v:Nat) (l h b:Tr),(node v l h).sz+b.sz<=n+1->(node v l h).ok->b.ok->v<b.top->(∀c,(node v l h).ev c=b.ev c)->False:=by
   rintro v l h b hn ⟨h0,h1,h2,h3,h4,h5⟩ hb hv he
   have hp:=o8 b
   simp only [sz] at hn
   refine h3 (ih l h (by omega) h4 h5 fun c=> ?_)
   have e1:=he (c.set v false)
   have e2:=he (c.set v true)
   rw [jR hb hv] at e1 e2
   have f1:(node v l h).ev (c.set v false)=l.ev c:=by simp only [ev];rw [if_neg (by simp [Cf.set]),jR h4 h1]
   have f2:(node v l h).ev (c.set v true)=h.ev c:=by simp only [ev];rw [if_pos (by simp [Cf.set]),jR h5 h2]
   rw [<- f1,<- f2,e1,e2]
  intro a b hn ha hb he
  cases a with
  |leaf x=>
   cases b with
   |leaf y=>exact congrArg leaf (he (fun _=>false))
   |node v l h=>exact (key v l h (leaf x) (by omega) hb trivial hb.1 (fun c=>(he c).symm)).elim
  |node v l h=>
   by_cases h1:v<b.top
   ·exact (key v l h b hn ha hb h1 he).elim
   cases b with
   |leaf y=>exact (h1 ha.1).elim
   |node w l' h'=>
    simp only [top] at h1
    by_cases h2:w<v
    ·exact (key w l' h' (node v l h) (by omega) hb ha h2 (fun c=>(he c).symm)).elim
    obtain rfl:v=w:=by omega
    obtain ⟨h0,a1,a2,a3,a4,a5⟩:=ha
    obtain ⟨_,b1,b2,b3,b4,b5⟩:=hb
    simp only [sz] at hn
    have e1:l=l':=ih l l' (by omega) a4 b4 fun c=>by
     have:=he (c.set v false)
     simp only [ev] at this
     rw [if_neg (by simp [Cf.set]),if_neg (by simp [Cf.set]),jR a4 a1,jR b4 b1] at this
     exact this
    have e2:h=h':=ih h h' (by omega) a5 b5 fun c=>by
     have:=he (c.set v true)
     simp only [ev] at this
     rw [if_pos (by simp [Cf.set]),if_pos (by simp [Cf.set]),jR a5 a2,jR b5 b2] at this
     exact this
    rw [e1,e2]
theorem DH {a b:Tr} (ha:a.ok) (hb:b.ok) (he:∀c,a.ev c=b.ev c):a=b:=Of _ a b (Nat.le_refl _) ha hb he
theorem vV {v:Nat} {l h:Tr} (hv:v<64) (h1:v<l.top) (h2:v<h.top) (h3:l.ok) (h4:h.ok):(mk v l h).ok:=by
 unfold mk
 split
 ·exact h3
 ·rename_i hn
  exact ⟨hv,h1,h2,hn,h3,h4⟩
theorem DI {v:Nat} {l h:Tr} (h1:v<l.top):v<=(mk v l h).top:=by
 unfold mk
 split
 ·omega
 ·exact Nat.le_refl _
theorem zC (v:Nat) (l h:Tr) (c:Cf):(mk v l h).ev c=if c v=true then h.ev c else l.ev c:=by
 unfold mk
 split
 ·rename_i e
  subst e
  simp
 ·rfl
theorem cR {t:Tr} (h:t.ok) {v:Nat} (hv:v<=t.top):(lo v t).ok/\(v<64->v<(lo v t).top)/\(lo v t).sz<=t.sz/\(t.top=v->t.isL=false->(lo v t).sz<t.sz)/\
  ∀c,c v=false->(lo v t).ev c=t.ev c:=by
 cases t with
 |leaf b=>exact ⟨trivial,fun h=>h,Nat.le_refl _,fun _ h=>(by cases h),fun _ _=>rfl⟩
 |node w l r=>
  obtain ⟨h0,h1,h2,h3,h4,h5⟩:=h
  simp only [lo]
  split
  ·rename_i e
   subst e
   refine ⟨h4,fun _=>h1,by simp only [sz];omega,fun _ _=>by simp only [sz];omega,fun c hc=> ?_⟩
   simp [ev,hc]
  ·rename_i e
   refine ⟨⟨h0,h1,h2,h3,h4,h5⟩,fun _=> ?_,Nat.le_refl _,fun he=> ?_,fun _ _=>rfl⟩
   ·simp only [top] at hv ⊢;omega
   ·simp only [top] at he;omega
theorem cS {t:Tr} (h:t.ok) {v:Nat} (hv:v<=t.top):(hi v t).ok/\(v<64->v<(hi v t).top)/\(hi v t).sz<=t.sz/\(t.top=v->t.isL=false->(hi v t).sz<t.sz)/\
  ∀c,c v=true->(hi v t).ev c=t.ev c:=by
 cases t with
 |leaf b=>exact ⟨trivial,fun h=>h,Nat.le_refl _,fun _ h=>(by cases h),fun _ _=>rfl⟩
 |node w l r=>
  obtain ⟨h0,h1,h2,h3,h4,h5⟩:=h
  simp only [hi]
  split
  ·rename_i e
   subst e
   refine ⟨h5,fun _=>h2,by simp only [sz];omega,fun _ _=>by simp only [sz];omega,fun c hc=> ?_⟩
   simp [ev,hc]
  ·rename_i e
   refine ⟨⟨h0,h1,h2,h3,h4,h5⟩,fun _=> ?_,Nat.le_refl _,fun he=> ?_,fun _ _=>rfl⟩
   ·simp only [top] at hv ⊢;omega
   ·simp only [top] at he;omega
abbrev Op3:=Bool->Bool->Bool->Bool
def aY (a b d:Tr):Nat:=min (min a.top b.top) d.top
theorem Og (o:Op3):∀(n:Nat) (a b d:Tr),a.sz+b.sz+d.sz<=n->a.ok->b.ok->d.ok->
  ∃t:Tr,t.ok/\aY a b d<=t.top/\∀c,t.ev c=o (a.ev c) (b.ev c) (d.ev c):=by
 intro n
 induction n with
 |zero=>intro a b d hn;have:=o8 a;omega
 |succ n ih=>
  intro a b d hn ha hb hd
  by_cases hv:aY a b d<64
  ·have v1:aY a b d<=a.top:=by unfold aY;omega
   have v2:aY a b d<=b.top:=by unfold aY;omega
   have v3:aY a b d<=d.top:=by unfold aY;omega
   have hcase:aY a b d=a.top\/aY a b d=b.top\/aY a b d=d.top:=by unfold aY;omega
   revert hcase
   revert v1 v2 v3 hv
   generalize aY a b d=v
   intro hv v1 v2 v3 hcase
   have nl:∀{t:Tr},v=t.top->t.isL=false:=fun {t} e=>by
    cases t with
    |leaf b=>simp only [top] at e;omega
    |node _ _ _=>rfl
   obtain ⟨al1,al2,al3,al4,al5⟩:=cR ha v1
   obtain ⟨bl1,bl2,bl3,bl4,bl5⟩:=cR hb v2
   obtain ⟨dl1,dl2,dl3,dl4,dl5⟩:=cR hd v3
   obtain ⟨ah1,ah2,ah3,ah4,ah5⟩:=cS ha v1
   obtain ⟨bh1,bh2,bh3,bh4,bh5⟩:=cS hb v2
   obtain ⟨dh1,dh2,dh3,dh4,dh5⟩:=cS hd v3
   have hsl:(lo v a).sz+(lo v b).sz+(lo v d).sz<=n:=by
    rcases hcase with e|e|e
    ·have:=al4 e.symm (nl e);omega
    ·have:=bl4 e.symm (nl e);omega
    ·have:=dl4 e.symm (nl e);omega
   have hsh:(hi v a).sz+(hi v b).sz+(hi v d).sz<=n:=by
    rcases hcase with e|e|e
    ·have:=ah4 e.symm (nl e);omega
    ·have:=bh4 e.symm (nl e);omega
    ·have:=dh4 e.symm (nl e);omega
   obtain ⟨tl,l1,l2,l3⟩:=ih _ _ _ hsl al1 bl1 dl1
   obtain ⟨th,h1,h2,h3⟩:=ih _ _ _ hsh ah1 bh1 dh1
   have l2':v<tl.top:=by have:=al2 hv;have:=bl2 hv;have:=dl2 hv;unfold aY at l2;omega
   have h2':v<th.top:=by have:=ah2 hv;have:=bh2 hv;have:=dh2 hv;unfold aY at h2;omega
   refine ⟨mk v tl th,vV hv l2' h2' l1 h1,DI l2',fun c=> ?_⟩
   rw [zC]
   split
   ·rename_i hc
    rw [h3,ah5 c hc,bh5 c hc,dh5 c hc]
   ·rename_i hc
    have hc:c v=false:=by simpa using hc
    rw [l3,al5 c hc,bl5 c hc,dl5 c hc]
  ·have isl:∀{t:Tr},t.ok->64<=t.top->∃b,t=leaf b:=fun {t} ht h64=>by
    cases t with
    |leaf b=>exact ⟨b,rfl⟩
    |node _ _ _=>have:=ht.1;simp only [top] at h64;omega
   unfold aY at hv
   obtain ⟨x,rfl⟩:=isl ha (by omega)
   obtain ⟨y,rfl⟩:=isl hb (by omega)
   obtain ⟨z,rfl⟩:=isl hd (by omega)
   exact ⟨leaf (o x y z),trivial,by simp [aY,top],fun c=>rfl⟩
noncomputable def can (f:Cf->Bool):Tr:=open Classical in if h:∃t:Tr,t.ok/\∀c,t.ev c=f c then h.choose else leaf false
theorem iA {f:Cf->Bool} {t:Tr} (h:t.ok) (he:∀c,t.ev c=f c):can f=t:=by
 have hx:∃t:Tr,t.ok/\∀c,t.ev c=f c:=⟨t,h,he⟩
 unfold can
 rw [dif_pos hx]
 exact DH hx.choose_spec.1 h fun c=>(hx.choose_spec.2 c).trans (he c).symm
noncomputable def ap (o:Op3) (a b d:Tr):Tr:=can fun c=>o (a.ev c) (b.ev c) (d.ev c)
section
variable {o:Op3} {a b d:Tr} (ha:a.ok) (hb:b.ok) (hd:d.ok)
include ha hb hd
theorem gl:(ap o a b d).ok/\aY a b d<=(ap o a b d).top/\∀c,(ap o a b d).ev c=o (a.ev c) (b.ev c) (d.ev c):=by
 obtain ⟨t,h1,h2,h3⟩:=Og o _ a b d (Nat.le_refl _) ha hb hd
 have:ap o a b d=t:=iA h1 h3
 rw [this]
 exact ⟨h1,h2,h3⟩
theorem Oh:(ap o a b d).ok:=(gl ha hb hd).1
theorem zE (hv:aY a b d<64):ap o a b d=mk (aY a b d) (ap o (lo (aY a b d) a) (lo (aY a b d) b) (lo (aY a b d) d)) (ap o (hi (aY a b d) a) (hi (aY a b d) b) (hi (aY a b d) d)):=by
 have v1:aY a b d<=a.top:=by unfold aY;omega
 have v2:aY a b d<=b.top:=by unfold aY;omega
 have v3:aY a b d<=d.top:=by unfold aY;omega
 revert v1 v2 v3 hv
 generalize aY a b d=v
 intro hv v1 v2 v3
 obtain ⟨al1,al2,al3,al4,al5⟩:=cR ha v1
 obtain ⟨bl1,bl2,bl3,bl4,bl5⟩:=cR hb v2
 obtain ⟨dl1,dl2,dl3,dl4,dl5⟩:=cR hd v3
 obtain ⟨ah1,ah2,ah3,ah4,ah5⟩:=cS ha v1
 obtain ⟨bh1,bh2,bh3,bh4,bh5⟩:=cS hb v2
 obtain ⟨dh1,dh2,dh3,dh4,dh5⟩:=cS hd v3
 obtain ⟨l1,l2,l3⟩:=gl (o:=o) al1 bl1 dl1
 obtain ⟨h1,h2,h3⟩:=gl (o:=o) ah1 bh1 dh1
 have l2':v<(ap o (lo v a) (lo v b) (lo v d)).top:=by have:=al2 hv;have:=bl2 hv;have:=dl2 hv;unfold aY at l2;omega
 have h2':v<(ap o (hi v a) (hi v b) (hi v d)).top:=by have:=ah2 hv;have:=bh2 hv;have:=dh2 hv;unfold aY at h2;omega
 refine iA (vV hv l2' h2' l1 h1) fun c=> ?_
 rw [zC]
 split
 ·rename_i hc
  rw [h3,ah5 c hc,bh5 c hc,dh5 c hc]
 ·rename_i hc
  have hc:c v=false:=by simpa using hc
  rw [l3,al5 c hc,bl5 c hc,dl5 c hc]
end
theorem zH (o:Op3) (x y z:Bool):ap o (leaf x) (leaf y) (leaf z)=leaf (o x y z):=iA trivial fun _=>rfl
theorem iB {t:Tr} (ht:t.ok) (h64:64<=t.top):∃b,t=leaf b:=by
 cases t with
 |leaf b=>exact ⟨b,rfl⟩
 |node _ _ _=>have:=ht.1;simp only [top] at h64;omega
end Tr
end Go.Proofs.YtenpmjhnhepfdaaGreatDoor
namespace Go.Proofs.YtenpmjhnhepfdaaGreatDoor
open Tr
structure Br where
 v:Int
 l:Int
 h:Int
deriving DecidableEq
def inn (S:List Tr) (t:Tr):Prop:=t.isL=true\/t∈S
def num (S:List Tr):Tr->Nat
 |leaf b=>if b then 1 else 0
 |node v l h=>S.idxOf (node v l h)+2
def br (S:List Tr):Tr->Br
 |leaf _=>⟨0,0,0⟩
 |node v l h=>⟨(v:Int),(num S l:Int),(num S h:Int)⟩
def brs (S:List Tr):List Br:=S.map (br S)
inductive Cl:List Tr->Prop
 |nil:Cl []
 |snoc {S:List Tr} {v:Nat} {l h:Tr}:Cl S->inn S l->inn S h->(node v l h).ok->node v l h ∉ S->Cl (S++[node v l h])
theorem bC {S X:List Tr} {t:Tr} (h:inn S t):inn (S++X) t:=h.imp id fun h=>List.mem_append_left X h
theorem d3 (S:List Tr) (b:Bool):inn S (leaf b):=.inl rfl
theorem ca {S:List Tr} {t:Tr} (h:inn S t) (hn:t.isL=false):t∈S:=h.resolve_left (by rw [hn];exact Bool.false_ne_true)
theorem bM {S X:List Tr} {t:Tr} (h:inn S t):num (S++X) t=num S t:=by
 cases t with
 |leaf b=>rfl
 |node v l r=>
  have hm:=ca h rfl
  simp only [num,List.idxOf_append,hm,if_true]
namespace Cl
theorem mem {S:List Tr} (h:Cl S):∀t∈S,t.ok/\∃v l r,t=node v l r/\inn S l/\inn S r:=by
 induction h with
 |nil=>intro t ht;cases ht
 | @snoc S v l r hS hl hr hk hn ih=>
  intro t ht
  rcases List.mem_append.1 ht with ht|ht
  ·obtain ⟨h1,v',l',r',h2,h3,h4⟩:=ih t ht
   exact ⟨h1,v',l',r',h2,bC h3,bC h4⟩
  ·obtain rfl:=List.mem_singleton.1 ht
   exact ⟨hk,v,l,r,rfl,bC hl,bC hr⟩
theorem nodup {S:List Tr} (h:Cl S):S.Nodup:=by
 induction h with
 |nil=>exact List.nodup_nil
 | @snoc S v l r hS hl hr hk hn ih=>
  rw [List.nodup_append]
  refine ⟨ih,by simp,?_⟩
  intro a ha b hb
  rw [List.mem_singleton] at hb
  subst hb
  rintro rfl
  exact hn ha
theorem inn_ok {S:List Tr} (h:Cl S) {t:Tr} (ht:inn S t):t.ok:=by
 cases t with
 |leaf b=>trivial
 |node v l r=>exact (h.mem _ (ca ht rfl)).1
theorem inn_kids {S:List Tr} (h:Cl S) {v:Nat} {l r:Tr} (ht:inn S (node v l r)):inn S l/\inn S r:=by
 obtain ⟨_,v',l',r',e,h3,h4⟩:=h.mem _ (ca ht rfl)
 cases e
 exact ⟨h3,h4⟩
theorem inn_lo {S:List Tr} (h:Cl S) {t:Tr} (ht:inn S t) (v:Nat):inn S (lo v t):=by
 cases t with
 |leaf b=>exact ht
 |node w l r=>
  simp only [lo]
  split
  ·exact (h.inn_kids ht).1
  ·exact ht
theorem inn_hi {S:List Tr} (h:Cl S) {t:Tr} (ht:inn S t) (v:Nat):inn S (hi v t):=by
 cases t with
 |leaf b=>exact ht
 |node w l r=>
  simp only [hi]
  split
  ·exact (h.inn_kids ht).2
  ·exact ht
end Cl
theorem cY {S:List Tr} {t:Tr} (h:inn S t):num S t<=S.length+1:=by
 cases t with
 |leaf b=>simp only [num];split<;>omega
 |node v l r=>
  have:=List.idxOf_lt_length_of_mem (ca h rfl)
  simp only [num];omega
theorem cZ {S:List Tr} {t:Tr} (h:t.isL=false):2<=num S t:=by
 cases t with
 |leaf b=>cases h
 |node v l r=>simp only [num];omega
theorem tL {S:List Tr} {t:Tr} (h:num S t<2):t.isL=true:=by
 cases t with
 |leaf b=>rfl
 |node v l r=>simp only [num] at h;omega
theorem cd (S:List Tr) (b:Bool):num S (leaf b)<=1:=by simp only [num];split<;>omega
theorem eQ {S:List Tr} {t:Tr} (h:t∈S) (hl:t.isL=false):S[num S t - 2]? =some t:=by
 cases t with
 |leaf b=>cases hl
 |node v l r=>
  have h1:=List.idxOf_lt_length_of_mem h
  simp only [num,Nat.add_sub_cancel]
  rw [List.getElem?_eq_getElem h1,List.getElem_idxOf]
theorem dk {S:List Tr} {t u:Tr} (ht:inn S t) (hu:inn S u) (h:num S t=num S u):t=u:=by
 cases ht':t.isL with
 |true=>
  cases hu':u.isL with
  |true=>
   cases t with
   |node _ _ _=>cases ht'
   |leaf a=>
    cases u with
    |node _ _ _=>cases hu'
    |leaf b=>
     simp only [num] at h
     cases a<;>cases b<;>simp at h ⊢
  |false=>
   have h1:=cZ (S:=S) hu'
   cases t with
   |node _ _ _=>cases ht'
   |leaf a=>have h2:num S (leaf a)<=1:=cd S a;omega
 |false=>
  cases hu':u.isL with
  |true=>
   have h1:=cZ (S:=S) ht'
   cases u with
   |node _ _ _=>cases hu'
   |leaf a=>have h2:num S (leaf a)<=1:=cd S a;omega
  |false=>
   have h1:=eQ (ca ht ht') ht'
   have h2:=eQ (ca hu hu') hu'
   rw [h,h2] at h1
   exact (Option.some.inj h1).symm
theorem dK {S:List Tr} (hS:Cl S) {k:Nat} {t:Tr} (h:S[k]? =some t):num S t=k+2:=by
 have hk:k<S.length:=(List.getElem?_eq_some_iff.1 h).1
 have hm:t∈S:=List.mem_of_getElem? h
 obtain ⟨_,v,l,r,rfl,_⟩:=hS.mem t hm
 have h1:=List.idxOf_lt_length_of_mem hm
 have h2:S[S.idxOf (node v l r)]=S[k]:=by
  rw [List.getElem_idxOf]
  exact (List.getElem?_eq_some_iff.1 h).2.symm
 have:=(List.getElem_inj hS.nodup).1 h2
 simp only [num]
 omega
def tr (S:List Tr) (n:Nat):Tr:=
 if n=0 then leaf false else if n=1 then leaf true else S.getD (n - 2) (leaf false)
theorem fZ {S:List Tr} {n:Nat} (h:n<=S.length+1):inn S (tr S n):=by
 unfold tr
 split
 ·exact d3 _ _
 ·split
  ·exact d3 _ _
  ·refine .inr ?_
   rw [List.getD_eq_getElem?_getD,List.getElem?_eq_getElem (by omega)]
   exact List.getElem_mem _
theorem fI {S:List Tr} (hS:Cl S) {n:Nat} (h:n<=S.length+1):num S (tr S n)=n:=by
 unfold tr
 split
 ·rename_i e;subst e;rfl
 ·split
  ·rename_i e;subst e;rfl
  ·have hk:n - 2<S.length:=by omega
   have:=dK hS (k:=n - 2) (t:=S[n - 2]) (List.getElem?_eq_getElem hk)
   rw [List.getD_eq_getElem?_getD,List.getElem?_eq_getElem hk]
   simp only [Option.getD_some]
   omega
theorem f7 {S:List Tr} (hS:Cl S) {t:Tr} (h:inn S t):tr S (num S t)=t:=
 dk (fZ (cY h)) h (fI hS (cY h))
theorem Cg {S X:List Tr} (hS:Cl S) {t:Tr} (h:t∈S):br (S++X) t=br S t:=by
 obtain ⟨_,v,l,r,rfl,hl,hr⟩:=hS.mem t h
 simp only [br,bM hl,bM hr]
theorem pd {S X:List Tr} (hS:Cl S):brs (S++X)=brs S++X.map (br (S++X)):=by
 unfold brs
 rw [List.map_append]
 congr 1
 exact List.map_congr_left fun t ht=>Cg hS ht
theorem d9 {S:List Tr} (hS:Cl S) {v:Nat} {l r:Tr} (hl:inn S l) (hr:inn S r):brs (S++[node v l r])=brs S++[⟨(v:Int),(num S l:Int),(num S r:Int)⟩]:=by
 rw [pd hS]
 simp only [List.map_cons,List.map_nil,br,bM hl,bM hr]
theorem aO (S:List Tr):(brs S).length=S.length:=by simp [brs]
theorem gL {S:List Tr} {k:Nat} {t:Tr} (h:S[k]? =some t):(brs S)[k]? =some (br S t):=by simp [brs,h]
theorem DJ {S:List Tr} (hS:Cl S) {t u:Tr} (ht:t∈S) (hu:u∈S) (h:br S t=br S u):t=u:=by
 obtain ⟨_,v,l,r,rfl,hl,hr⟩:=hS.mem t ht
 obtain ⟨_,v',l',r',rfl,hl',hr'⟩:=hS.mem u hu
 simp only [br,Br.mk.injEq] at h
 obtain ⟨h1,h2,h3⟩:=h
 rw [dk hl hl' (by omega),dk hr hr' (by omega),show v=v' by omega]
theorem nq {S T:List Tr} (hS:Cl S):Cl T->brs S=brs T->S=T:=by
 intro hT
 induction hS generalizing T with
 |nil=>
  intro h
  cases T with
  |nil=>rfl
  |cons a b=>have:=congrArg List.length h;simp [brs] at this
 | @snoc S v l r hS hl hr hk hn ih=>
  intro h
  cases hT with
  |nil=>have:=congrArg List.length h;simp [brs] at this
  | @snoc T v' l' r' hT hl' hr' hk' hn'=>
   rw [d9 hS hl hr,d9 hT hl' hr'] at h
   obtain ⟨h1,h2⟩:=List.append_inj' h rfl
   obtain rfl:=ih hT h1
   simp only [List.cons.injEq,Br.mk.injEq,and_true] at h2
   obtain ⟨h3,h4,h5⟩:=h2
   rw [dk hl hl' (by omega),dk hr hr' (by omega),show v=v' by omega]
def vis:Tr->List Tr->List Tr
 |leaf _,S=>S
 |node v l h,S=>if node v l h∈S then S else vis h (vis l S)++[node v l h]
theorem jh {S:List Tr} {t:Tr} (h:inn S t):vis t S=S:=by
 cases t with
 |leaf b=>rfl
 |node v l r=>unfold vis;rw [if_pos (ca h rfl)]
theorem bv:∀(t:Tr) (S:List Tr),t.ok->Cl S->Cl (vis t S)/\inn (vis t S) t/\(∃X,vis t S=S++X/\∀x∈X,x.sz<=t.sz)
 |leaf b,S,_,hS=>⟨hS,d3 _ _,[],by simp [vis],fun x h=>by cases h⟩
 |node v l r,S,hk,hS=>by
  unfold vis
  split
  ·rename_i hm
   exact ⟨hS,.inr hm,[],by simp,fun x h=>by cases h⟩
  ·rename_i hm
   obtain ⟨h1,h2,X,h3,h4⟩:=bv l S hk.2.2.2.2.1 hS
   obtain ⟨g1,g2,Y,g3,g4⟩:=bv r (vis l S) hk.2.2.2.2.2 h1
   have hn:node v l r ∉ vis r (vis l S):=by
    rw [g3,h3]
    intro hc
    rcases List.mem_append.1 hc with hc|hc
    ·rcases List.mem_append.1 hc with hc|hc
     ·exact hm hc
     ·have:=h4 _ hc;simp only [sz] at this;omega
    ·have:=g4 _ hc;simp only [sz] at this;omega
   refine ⟨.snoc g1 (by rw [g3];exact bC h2) g2 hk hn,.inr (by simp),X++Y++[node v l r],by rw [g3,h3];simp,fun x hx=> ?_⟩
   simp only [List.mem_append,List.mem_singleton,or_assoc] at hx
   rcases hx with hx|hx|hx
   ·have:=h4 x hx;simp only [sz];omega
   ·have:=g4 x hx;simp only [sz];omega
   ·rw [hx];exact Nat.le_refl _
def aH (t:Tr):List Tr:=vis t []
theorem cx {t:Tr} (h:t.ok):Cl (aH t):=(bv t [] h .nil).1
theorem ce {t:Tr} (h:t.ok):inn (aH t) t:=(bv t [] h .nil).2.1
abbrev Dia:=List Br×Int
def dia (t:Tr):Dia:=(brs (aH t),(num (aH t) t:Int))
theorem Hr {t u:Tr} (ht:t.ok) (hu:u.ok) (h:dia t=dia u):t=u:=by
 unfold dia at h
 simp only [Prod.mk.injEq] at h
 obtain ⟨h1,h2⟩:=h
 have h3:=nq (cx ht) (cx hu) h1
 rw [<- h3] at h2
 refine dk (ce ht) ?_ (by omega)
 rw [h3]
 exact ce hu
def cnt:Tr->Nat
 |leaf _=>0
 |node _ l h=>cnt l+cnt h+1
theorem jS:∀(t:Tr) (S:List Tr),(vis t S).length<=S.length+cnt t
 |leaf _,_=>Nat.le_refl _
 |node v l r,S=>by
  unfold vis
  split
  ·omega
  ·have h1:=jS l S
   have h2:=jS r (vis l S)
   simp only [List.length_append,List.length_singleton,cnt]
   omega
theorem vW (t:Tr):(aH t).length<=cnt t:=by have:=jS t [];simpa [aH] using this
end Go.Proofs.YtenpmjhnhepfdaaGreatDoor
namespace Go.Proofs.YtenpmjhnhepfdaaGreatDoor
open Go Go.Proofs.Tryz
theorem sz3:tsz prog 3=some (1,8):=by kernel_rfl
theorem sz5:tsz prog 5=some (1,1):=by kernel_rfl
theorem sz9:tsz prog 9=some (1,16):=by kernel_rfl
theorem To:tsz prog 54=some (1,8):=by kernel_rfl
theorem Tq:tsz prog 67=some (13,160):=by kernel_rfl
theorem Ts:tsz prog 69=some (2,16):=by kernel_rfl
theorem Tu:tsz prog 72=some (4,64):=by kernel_rfl
theorem Tv:tsz prog 74=some (9,104):=by kernel_rfl
theorem Tw:tsz prog 79=some (7,112):=by kernel_rfl
theorem Tx:tsz prog 97=some (5,40):=by kernel_rfl
theorem Oi:tsz prog 101=some (3,24):=by kernel_rfl
theorem zI:tsz prog 103=some (3,24):=by kernel_rfl
theorem Jt:tsz prog 289=some (3,24):=by kernel_rfl
theorem zr3:bk prog 3=some (Value.int .i64 0):=by kernel_rfl
theorem zr5:bk prog 5=some (Value.int .u8 0):=by kernel_rfl
theorem zr9:bk prog 9=some (Value.string ⟨#[]⟩):=by kernel_rfl
theorem Tz:bk prog 54=some (Value.int .u64 0):=by kernel_rfl
theorem TA:bk prog 67=some (Value.agg (#[Value.string ⟨#[]⟩,Value.int .i64 0,Value.slice none 0 0,Value.slice none 0 0,Value.int .i64 0,Value.bool false,Value.int .i64 0,Value.slice none 0 0,Value.bool false,Value.int .i64 0,Value.int .i64 0,Value.int .i64 0,Value.int .i64 0])):=by kernel_rfl
theorem TB:bk prog 69=some (Value.agg (#[Value.bool false,Value.int .i64 0])):=by kernel_rfl
theorem TC:bk prog 72=some (Value.agg (#[Value.slice none 0 0,Value.int .i64 0,Value.slice none 0 0,Value.int .i64 0])):=by kernel_rfl
theorem TD:bk prog 74=some (Value.agg (#[Value.int .i64 0,Value.int .i64 0,Value.int .i64 0,Value.int .i64 0,Value.int .i64 0,Value.int .i64 0,Value.slice none 0 0,Value.slice none 0 0,Value.int .i64 0])):=by kernel_rfl
theorem TE:bk prog 79=some (Value.agg (#[Value.string ⟨#[]⟩,Value.int .i64 0,Value.string ⟨#[]⟩,Value.slice none 0 0,Value.string ⟨#[]⟩,Value.slice none 0 0,Value.int .i64 0])):=by kernel_rfl
theorem TF:bk prog 97=some (Value.agg (#[Value.int .i64 0,Value.int .i64 0,Value.int .i64 0,Value.int .i64 0,Value.int .i64 0])):=by kernel_rfl
theorem Oj:bk prog 101=some (Value.agg (#[Value.int .i64 0,Value.int .i64 0,Value.int .i64 0])):=by kernel_rfl
theorem zJ:bk prog 103=some (Value.agg (#[Value.int .i64 0,Value.int .i64 0,Value.int .i64 0])):=by kernel_rfl
theorem Ju:bk prog 289=some (Value.agg (#[Value.int .i64 0,Value.int .i64 0,Value.int .i64 0])):=by kernel_rfl
section
variable {P:Program} {n:Nat} {Q:Exit->En->PH->Prop} {E:En} {F:PH} {ops:Array Oper} {l:List Oper} {d:Tmp} {op:Op} {ty:TypeId} {pos:String} {aft:Array Edge} {gd:Option (Nat×Bool)}
theorem TG {fn:Func} {r r' r'' r3:ResultVar} {v v' v'' v3:Value} (h:fn.results= #[r,r',r'',r3]) (hv:jT P E F r v) (hv':jT P E F r' v') (hv'':jT P E F r'' v'') (hv3:jT P E F r3 v3):pm P fn E F (.tuple #[v,v',v'',v3]):=fun e w tmps st ht=>by
 have k:=f8 hv st ht
 have k':=f8 hv' st ht
 have k'':=f8 hv'' st ht
 have k3:=f8 hv3 st ht
 clear ht hv hv' hv'' hv3
 rcases k with ⟨t,rfl,h1⟩|⟨x,t,a,rfl,h1,h2⟩<;>rcases k' with ⟨t',rfl,h3⟩|⟨x',t',a',rfl,h3,h4⟩<;>rcases k'' with ⟨t'',rfl,h5⟩|⟨x'',t'',a'',rfl,h5,h6⟩<;>rcases k3 with ⟨t3,rfl,h7⟩|⟨x3,t3,a3,rfl,h7,h8⟩<;>simp [results,asAddr, *]
end
section
variable {P:Program} {F:PH} {E:En} {o:Oper} {x y:Operand} {t t':TypeId}
theorem Mr {c d:ByteArray} (ho:o.op=.binOp .add t x y t') (hx:ev E x=.string c) (hy:ev E y=.string d) (h:c.size+d.size<=9223372036854775807):RD P E F o (.string (c++d)):=by
 have e:IntKind.i64.max=9223372036854775807:=by decide
 have hn:¬(((c.size+d.size:Nat):Int)>IntKind.i64.max):=by rw [e];omega
 simp only [RD,execOp,ho,hx,hy,ak]
 refine ⟨.string (c++d),⟨(),bP rfl,?_⟩,rfl⟩
 show rdo P (Op.stringOp .add c d) F _
 unfold Op.stringOp
 simp only [if_neg hn]
 rfl
theorem Ms {c d:ByteArray} (ho:o.op=.binOp .lss t x y t') (hx:ev E x=.string c) (hy:ev E y=.string d):RD P E F o (.bool (Op.bytesLess c.toList d.toList)):=by
 simp only [RD,execOp,ho,hx,hy,ak]
 exact ⟨_,⟨(),bP rfl,rfl⟩,rfl⟩
theorem Mt {c d:ByteArray} (ho:o.op=.binOp .geq t x y t') (hx:ev E x=.string c) (hy:ev E y=.string d):RD P E F o (.bool (!Op.bytesLess c.toList d.toList)):=by
 simp only [RD,execOp,ho,hx,hy,ak]
 exact ⟨_,⟨(),bP rfl,rfl⟩,rfl⟩
theorem DK {e:TypeId} {v:Value} {s:ByteArray} (ho:o.op=.convert t t' x) (hx:ev E x=v) (h1:P.underlying t=some (.slice e)) (h2:P.underlying t'=some .string) (h3:P.underlying e=some (.int .u8))
  (hv:∃b l c,v=.slice b l c) (h:rdo P (Conv.bytesToString v) F (.string s)):RD P E F o (.string s):=by
 obtain ⟨b,l,c,rfl⟩:=hv
 simp only [RD,execOp,ho,hx,ak,convert]
 refine ⟨_,⟨_,(av h1 _).2 rfl,_,(av h2 _).2 rfl,?_⟩,rfl⟩
 cases b<;>(simp only [ak];exact ⟨_,(av h3 _).2 rfl,h⟩)
variable {K:En->PH->Prop} {d:Tmp} {ty:TypeId} {pos:String} {aft:Array Edge} {gd:Option (Nat×Bool)}
theorem DL {m:Option Nat} {r:Value} (ho:o.op=.call {callee:=.builtin .len,args:= #[x],argTypes:= #[t]}) (hx:ev E x=.map m) (h:rdo P (Builtin.len_ #[t] o.type #[.map m]) F r):RD P E F o r:=by
 simp [RD,execOp,ho,resolve,invoke,builtin,hx,ak]
 exact h
theorem Ht {v r:Value} (ho:o.op=.entry x) (hx:ev E x=v) (h:rdo P (Instr.entry v) F r):RD P E F o r:=by
 simp only [RD,execOp,ho,hx,ak]
 exact ⟨_,h,rfl⟩
end
end Go.Proofs.YtenpmjhnhepfdaaGreatDoor

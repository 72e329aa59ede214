/-
  The reference's matcher: what behind, Matches and Longest return.
-/
import Derived.Test.YtenpmjhnhepfdaaGreatDoorEd
import Derived.Test.YtenpmjhnhepfdaaGreatDoorPhm
import Derived.Test.YtenpmjhnhepfdaaGreatDoorQm
import Derived.Test.YtenpmjhnhepfdaaGreatDoorTa
import Derived.Test.YtenpmjhnhepfdaaGreatDoorQr
namespace Go.Proofs.YtenpmjhnhepfdaaGreatDoor
open Go Go.Proofs.Tryz
set_option maxRecDepth 10000
abbrev PrQ:=Nat×Nat
section
variable {G F:PH} {b:Nat} {ys:List (Nat×Array Value×TypeId)} {L:List PrQ}
end
section
variable {G F:PH} {l1 l2:List Nd} {t1 t2:Lt} {m1 m2:Nat}
theorem Mch.pat {F:PH} {bm:Nat} {l:List Nd} {t:Lt} (h:Mch F bm l t):∃s:Sl,F.cell (Addr.mk bm 0 none)=some s.v/\s.len=l.length/\∀i x,l[i]? =some x->∃a,s.base=some a/\F.cell ((a.add (i*5)).add 1)=some (vi x.lo)/\F.cell ((a.add (i*5)).add 2)=some (vi x.hi):=by
 obtain ⟨s,bf,qm,hs,qf⟩:=h.ex
 refine ⟨s,by rw [am qm];rfl,hs.nlen,fun i x hx=> ?_⟩
 obtain ⟨a,h1,_,h2,h3⟩:=Qg hs hx
 exact ⟨a,h1,h2,h3⟩
end
end Go.Proofs.YtenpmjhnhepfdaaGreatDoor
namespace Go.Proofs.YtenpmjhnhepfdaaGreatDoor
set_option maxRecDepth 10000
structure Two where
 acc:PrQ->Nat->Prop
 lnk:PrQ->PrQ->Prop
 ini:PrQ->Prop
 fin:PrQ->Prop
namespace Two
def cm (T:Two) (x:PrQ):Prop:=∃b,T.acc x b
def R (T:Two):Nat->PrQ->Prop
 |0,x=>T.cm x/\T.fin x
 |n+1,x=>T.cm x/\∃y,T.lnk x y/\T.R n y
variable {T:Two}
end Two
section
variable {T:Two} {q:List PrQ} {at_:Nat} {m:PrQ->Option Nat} {x y:PrQ} {d:Nat}
end
section
variable {T:Two} {N r c:Nat} {now now':List PrQ} {out:List Nat} {m:PrQ->Option Nat}
end
end Go.Proofs.YtenpmjhnhepfdaaGreatDoor
namespace Go.Proofs.YtenpmjhnhepfdaaGreatDoor
open Go Go.Proofs.Tryz
set_option maxRecDepth 10000
structure Ov (e:TypeId) (G F:PH) (s:Sl) (vs:List Value):Prop where
 le:G.le F
 own:bA F e 1 s vs
 oz:∀a,s.base=some a->G a.block=none
section
variable {e:TypeId} {G F:PH} {s:Sl} {vs:List Value}
theorem Ov.fresh (h:Ov e G F s vs) {x:Nat} (hx:F x=none) (o:Obj):Ov e G (F.set x o) s vs:=
 ⟨aa h.le (ac o hx),h.own.keep fun a ha=>by
  obtain ⟨o',ho⟩:=h.own.som ha
  exact az _ _ (aG hx ho),h.oz⟩
theorem Ov.call {f:FuncId} {args:Array Value} {P:Value->PH->Prop} (h:Ov e G F s vs) (sp:ae prog f args G P):ae prog f args F fun r F'=>∃G',P r G'/\Ov e G' F' s vs:=
 (sp.upon h.le).mono fun r F' ⟨G',hp,hl,hk⟩=>⟨G',hp,hl,h.own.keep fun a ha=>by
  obtain ⟨o,ho⟩:=h.own.som ha
  rw [(hk _ _ (h.oz a ha) ho).1,ho],fun a ha=>by
  obtain ⟨o,ho⟩:=h.own.som ha
  exact (hk _ _ (h.oz a ha) ho).2⟩
theorem Ov.len (h:Ov e G F s vs):s.len=vs.length:=by have:=h.own.rd.len;omega
theorem Ov.push {t bytes:Nat} {z:Value} (ht:prog.underlying t=some (.slice e)) (hsz:tsz prog e=some (1,bytes)) (hz:bk prog e=some z) (hzs:z.cells.size=1) (hby:bytes<=64) (h:Ov e G F s vs) {v:Value} (hst:ai v) (hl:s.len<=1000000) {K:Sl->PH->Prop} (k:∀s' F',Ov e G F' s' (vs++[v])->K s' F'):
  ∀x,F x=none->atF (F.set x (.cells #[v] e)) fun F=>
   aE prog (Builtin.append_ #[t,t] t #[(Sl.v s),(Sl.v (Sl.mk (some (Addr.mk x 0 none)) 1 1))]) F fun v F=>∃s':Sl,v=(Sl.v s')/\K s' F:=by
 intro x hx
 refine atI ?_
 have h1:=h.fresh hx (.cells #[v] e)
 have q1:=an F x (.cells #[v] e)
 generalize F.set x (.cells #[v] e)=F1 at*
 have hb:(s.len+1)*bytes<=1000001*64:=Nat.mul_le_mul (by omega) hby
 refine gK (F0:=G) (x:=⟨some ⟨x,0,none⟩,1,1⟩) (news:=[v]) ht hsz hz hzs (by decide) h1.le h1.own h1.oz (RdS.new q1 rfl rfl (Nat.le_refl _)) (fun w hw=>by rw [List.mem_singleton] at hw;subst hw;exact hst) (by simp only;omega) (by simp only;omega) ?_
 intro s' F2 le2 ho2 hl2 hnew keep hsome
 exact ⟨s',rfl,k s' F2 ⟨le2,ho2,hnew⟩⟩
theorem Ov.cut (h:Ov e G F s vs) {k:Nat} (hk:k<=s.len) (hne:s≠Sl.nil):Ov e G F (Sl.cut s 1 0 k s.cap) (vs.take k):=by
 rcases h.own with ⟨rfl,_⟩|⟨b,cur,h1,h2,h3,h4,h5,h6⟩
 ·exact absurd rfl hne
 ·have hb:(Sl.cut s 1 0 k s.cap).base=s.base:=by
   unfold Sl.cut
   simp only [Nat.zero_mul]
   split
   ·rfl
   ·rw [h1];rfl
  refine ⟨h.le,.inr ⟨b,cur,by rw [hb];exact h1,h2,by simp only [Sl.cut];omega,by simp only [Sl.cut];omega,?_,?_⟩,fun a ha=>h.oz a (by rw [<- hb];exact ha)⟩
  ·rw [List.length_take]
   simp only [Sl.cut]
   omega
  ·rw [<- h6,List.take_take]
   simp only [Sl.cut]
   congr 1
   omega
theorem Ov.put (h:Ov e G F s vs) {i:Nat} (hi:i<s.len) (v:Value) {K:PH->Prop} (k:∀F',Ov e G F' s (vs.set i v)->K F'):
  ∃a:Addr,s.base=some a/\∃c e,F (Addr.add a (i*1)).block=some (.cells c e (0,0))/\(Addr.add a (i*1)).spot=none/\(Addr.add a (i*1)).off<c.size/\
   atF (F.set (Addr.add a (i*1)).block (.cells (c.setIfInBounds (Addr.add a (i*1)).off v) e)) K:=by
 rcases h.own with ⟨rfl,_⟩|⟨b,cur,h1,h2,h3,h4,h5,h6⟩
 ·simp [Sl.nil] at hi
 ·have ea:(Addr.mk b 0 none).add (i*1)=⟨b,i,none⟩:=by rw [bS,Nat.zero_add,Nat.mul_one]
  refine ⟨_,h1,?_⟩
  rw [ea]
  refine st1 (o:=i) h2 (by omega) (k _ ?_)
  refine ⟨fun y o hy=>(az _ _ (fun e=>by rw [e,h.oz _ h1] at hy;cases hy)).trans (h.le y o hy),.inr ⟨b,_,h1,an _ _ _,by simpa using h3,h4,by simpa using h5,?_⟩,h.oz⟩
  rw [<- h6,Array.toList_setIfInBounds,List.take_set]
end
section
variable {F0:PH}
end
def slc (w:List Nat) (f e:Nat):List Nat:=(w.drop f).take (e - f)
theorem ii {w:List Nat} {f e:Nat} (h:f<=e) (he:e<=w.length):(slc w f e).length=e - f:=by
 unfold slc;rw [List.length_take,List.length_drop];omega
theorem rF {w:List Nat} {f m e:Nat} (h1:f<=m) (h2:m<=e):slc w f m++slc w m e=slc w f e:=by
 unfold slc
 obtain ⟨a,rfl⟩:=Nat.exists_eq_add_of_le h1
 obtain ⟨b,rfl⟩:=Nat.exists_eq_add_of_le h2
 rw [show f+a - f=a by omega,show f+a+b - (f+a)=b by omega,show f+a+b - f=a+b by omega,<- List.drop_drop,List.take_add]
theorem tH {w:List Nat} {f e:Nat} (h:f<=e) (he:e<=w.length) {u v:List Nat} (hw:slc w f e=u++v):∃m,f<=m/\m<=e/\slc w f m=u/\slc w m e=v:=by
 have hl:=ii h he
 rw [hw,List.length_append] at hl
 have h1:f<=f+u.length:=by omega
 have h2:f+u.length<=e:=by omega
 have hj:=rF (w:=w) h1 h2
 rw [hw] at hj
 have:=List.append_inj hj (by rw [ii h1 (by omega)];omega)
 exact ⟨f+u.length,h1,h2,this.1,this.2⟩
theorem B7 {w:List Nat} {f e:Nat} (h:f<=e) (he:e<=w.length) (hw:slc w f e=[]):f=e:=by
 have:=ii h he
 rw [hw] at this
 simp at this
 omega
theorem xC (w:List Nat) (f:Nat):slc w f f=[]:=by simp [slc]
theorem B8 {w:List Nat} {f:Nat} (h:f<w.length):slc w f (f+1)=[w[f]]:=by
 unfold slc
 rw [show f+1 - f=1 by omega,List.drop_eq_getElem_cons h]
 rfl
def Bh (P:List Nat->Prop) (w fr:List Nat) (e:Nat):Prop:=∃f∈fr,f<=e/\e<=w.length/\P (slc w f e)
theorem NZ {w fr:List Nat} (hf:∀f∈fr,f<=w.length) (e:Nat):Bh (Lg .emp) w fr e↔e∈fr:=by
 constructor
 ·rintro ⟨f,hm,h1,h2,h3⟩
  have:f=e:=B7 h1 h2 h3
  subst this
  exact hm
 ·intro h
  exact ⟨e,h,Nat.le_refl _,hf e h,xC _ _⟩
theorem N0 {x y:Pat} {w fr o:List Nat} (ho:∀e,e∈o↔Bh (Lg x) w fr e) (e:Nat):Bh (Lg y) w o e↔Bh (Lg (.seq x y)) w fr e:=by
 constructor
 ·rintro ⟨m,hm,h1,h2,h3⟩
  obtain ⟨f,hf,g1,g2,g3⟩:=(ho m).1 hm
  exact ⟨f,hf,by omega,h2,_,_,(rF g1 h1).symm,g3,h3⟩
 ·rintro ⟨f,hf,h1,h2,u,v,e1,hu,hv⟩
  obtain ⟨m,m1,m2,rfl,rfl⟩:=tH h1 h2 e1
  exact ⟨m,(ho m).2 ⟨f,hf,m1,by omega,hu⟩,m2,h2,hv⟩
theorem N7 {x y:Pat} {w fr:List Nat} (e:Nat):Bh (Lg (.alt x y)) w fr e↔Bh (Lg x) w fr e\/Bh (Lg y) w fr e:=by
 constructor
 ·rintro ⟨f,hf,h1,h2,h3|h3⟩
  ·exact .inl ⟨f,hf,h1,h2,h3⟩
  ·exact .inr ⟨f,hf,h1,h2,h3⟩
 ·rintro (⟨f,hf,h1,h2,h3⟩|⟨f,hf,h1,h2,h3⟩)
  ·exact ⟨f,hf,h1,h2,.inl h3⟩
  ·exact ⟨f,hf,h1,h2,.inr h3⟩
theorem ie.append {P:List Nat->Prop} {u v:List Nat} (hu:ie P u) (hv:P v):ie P (u++v):=by
 induction hu with
 |nil=>
  have:=ie.cons hv .nil
  rw [List.append_nil] at this
  exact this
 |cons h _ ih=>rw [List.append_assoc];exact .cons h ih
theorem Jp {x:Pat} {w fr o:List Nat} (ho:∀e∈o,Bh (Lg (.rep x)) w fr e) {e:Nat} (h:Bh (Lg x) w o e):Bh (Lg (.rep x)) w fr e:=by
 obtain ⟨m,hm,h1,h2,h3⟩:=h
 obtain ⟨f,hf,g1,g2,g3⟩:=ho m hm
 refine ⟨f,hf,by omega,h2,?_⟩
 rw [<- rF g1 h1]
 exact ie.append g3 h3
theorem N8 {x:Pat} {w fr o:List Nat} (hi:∀f∈fr,f∈o) (ho:∀e∈o,Bh (Lg (.rep x)) w fr e) (hc:∀e,Bh (Lg x) w o e->e∈o) (e:Nat):e∈o↔Bh (Lg (.rep x)) w fr e:=by
 refine ⟨ho e,?_⟩
 rintro ⟨f,hf,h1,h2,h3⟩
 have key:∀u,ie (Lg x) u->∀f,f∈o->f<=e->slc w f e=u->e∈o:=by
  intro u hu
  induction hu with
  |nil=>
   intro f hf h1 hs
   have:=B7 h1 h2 hs
   subst this
   exact hf
  |cons hu _ ih=>
   intro f hf h1 hs
   obtain ⟨m,m1,m2,rfl,e2⟩:=tH h1 h2 hs
   exact ih m (hc m ⟨f,hf,m1,by omega,hu⟩) m2 e2
 exact key _ h3 f (hi f hf) h1 rfl
def tog:List Nat->List Nat->List Nat
 |o,[]=>o
 |o,m::ms=>tog (if m∈o then o else o++[m]) ms
theorem xD (m:Nat):∀(ms o:List Nat),tog o (ms++[m])=if m∈tog o ms then tog o ms else tog o ms++[m]
 |[],o=>rfl
 |k::ms,o=>xD m ms _
theorem ij (e:Nat):∀(ms o:List Nat),e∈tog o ms↔e∈o\/e∈ms
 |[],o=>by simp [tog]
 |m::ms,o=>by
  rw [tog,ij e ms]
  split
  ·rename_i h
   simp only [List.mem_cons]
   constructor
   ·rintro (h1|h1)
    ·exact .inl h1
    ·exact .inr (.inr h1)
   ·rintro (h1|rfl|h1)
    ·exact .inl h1
    ·exact .inl h
    ·exact .inr h1
  ·simp only [List.mem_append,List.mem_cons,List.not_mem_nil,or_false,or_assoc]
theorem mC:∀(ms o:List Nat),o.Nodup->(tog o ms).Nodup
 |[],o,h=>h
 |m::ms,o,h=>by
  rw [tog]
  refine mC ms _ ?_
  split
  ·exact h
  ·rename_i hm
   exact List.nodup_append.2 ⟨h,by simp,fun a ha b hb e=>hm (by simp at hb;subst hb;subst e;exact ha)⟩
theorem vP:∀(ms o:List Nat),∃k,tog o ms=o++k
 |[],o=>⟨[],by simp [tog]⟩
 |m::ms,o=>by
  rw [tog]
  obtain ⟨k,hk⟩:=vP ms (if m∈o then o else o++[m])
  rw [hk]
  split
  ·exact ⟨k,rfl⟩
  ·exact ⟨[m]++k,by simp⟩
theorem Jq (ms o:List Nat):(tog o ms).length<=o.length+ms.length:=by
 induction ms generalizing o with
 |nil=>simp [tog]
 |cons m ms ih=>
  rw [tog]
  refine Nat.le_trans (ih _) ?_
  split<;>simp<;>omega
theorem Hh {ms o:List Nat} (h:(tog o ms).length<=o.length):∀m∈ms,m∈o:=by
 obtain ⟨k,hk⟩:=vP ms o
 rw [hk,List.length_append] at h
 have:k=[]:=List.length_eq_zero_iff.1 (by omega)
 subst this
 intro m hm
 have:=(ij m ms o).2 (.inr hm)
 rw [hk] at this
 simpa using this
theorem ik {o:List Nat} {n:Nat} (h:o.Nodup) (hb:∀e∈o,e<=n):o.length<=n+1:=nodup_bound' (n+1) o h fun e he=>by have:=hb e he;omega
where nodup_bound':∀(n:Nat) (ns:List Nat),ns.Nodup->(∀j∈ns,j<n)->ns.length<=n
 |0,[],_,_=>Nat.le_refl _
 |0,j::ns,_,h=>absurd (h j (by simp)) (by omega)
 |n+1,ns,hn,h=>by
  by_cases hm:n∈ns
  ·have:=nodup_bound' n (ns.erase n) (hn.erase n) fun j hj=>by
    have h1:=h j (List.mem_of_mem_erase hj)
    have h2:j≠n:=fun e=>by rw [e] at hj;exact (hn.not_mem_erase hj)
    omega
   rw [List.length_erase_of_mem hm] at this
   omega
  ·have:=nodup_bound' n ns hn fun j hj=>by
    have h1:=h j hj
    have h2:j≠n:=fun e=>hm (e▸hj)
    omega
   omega
def il (ns:List Nat):List Value:=ns.map fun (n:Nat)=>vi n
theorem Hi (a b:List Nat):il (a++b)=il a++il b:=by simp [il]
theorem Te (a:List Nat):∀v∈il a,ai v:=fun v hv=>by
 obtain ⟨n,_,rfl⟩:=List.mem_map.1 hv
 exact ⟨fun _ h=>(by cases h),fun _ h=>(by cases h)⟩
section
variable {F:PH}
theorem mD {s:Sl} {ns:List Nat} (h:RdS F s 1 (il ns)):s.len=ns.length:=by have:=h.len;simp [il] at this;omega
theorem vQ {s:Sl} {ns:List Nat} (h:RdS F s 1 (il ns)) {i:Nat} (hi:i<ns.length):∃a,s.base=some a/\F.cell (a.add (Int.toNat (i:Int)*1))=some (vi (ns[i]:Nat)):=by
 have hl:=mD h
 obtain ⟨b,o,hb,_⟩:=h.cells (by omega)
 refine ⟨_,hb,?_⟩
 rw [Int.toNat_natCast,Nat.mul_one]
 have:=h.cell hb (i:=i) (by simp [il];exact hi)
 rw [this]
 simp [il]
theorem B9 {s:Sl} {ns:List Nat} (h:RdS F s 1 (il ns)) (hn:ns.length<=1000000) (n:Nat):ae prog 238 #[s.v,vi n] F fun r F'=>r=.bool (decide (n∈ns))/\F'=F:=by
 have hl:=mD h
 refine Ql ?_
 unfold Kq
 refine ⟨fun m i F'=>∃j:Nat,i=j/\j<=ns.length/\m=ns.length - j/\F'=F/\n ∉ ns.take j,ns.length,⟨0,rfl,by omega,rfl,rfl,by simp⟩,?_⟩
 rintro _ _ F' ⟨j,rfl,hj,rfl,e,hno⟩
 obtain rfl:=e.symm
 unfold AX
 refine ⟨fun hlt=> ?_,fun hge=> ?_⟩
 ·have hjl:j<ns.length:=by omega
  obtain ⟨a,ha,hc⟩:=vQ h hjl
  refine ⟨a,ha,by omega,by omega,_,hc,fun he=>⟨?_,rfl⟩,fun he=>⟨ns.length - (j+1),by omega,j+1,fd (by omega),by omega,rfl,rfl,?_⟩⟩
  ·have:n=ns[j]:=by omega
   rw [decide_eq_true (by rw [this];exact List.getElem_mem hjl)]
  ·rw [List.take_add_one,List.getElem?_eq_getElem hjl]
   simp only [Option.toList_some,List.mem_append,List.mem_singleton]
   rintro (h1|h1)
   ·exact hno h1
   ·exact he (by omega)
 ·unfold AW
  obtain rfl:j=ns.length:=by omega
  rw [List.take_length] at hno
  exact ⟨by rw [decide_eq_false hno],rfl⟩
def IlV (F:PH) (v:Value) (o:List Nat):Prop:=∃s:Sl,v=s.v/\RdS F s 1 (il o)
theorem lT {s s2:Sl} {ns ms:List Nat} (h:RdS F s 1 (il ns)) (h2:RdS F s2 1 (il ms)) (hn:ns.length<=200000) (hm:ms.length<=200000):ae prog 243 #[s.v,s2.v] F fun r F'=>IlV F' r (tog ns ms)/\F.le F':=by
 have hl:=mD h
 have hl2:=mD h2
 refine Qm ?_
 unfold Kr
 intro b4 hb4
 refine atI ?_
 have l4:=ac (.cells #[] 3) hb4
 have q4:=an F b4 (.cells #[] 3)
 generalize F.set b4 (.cells #[] 3)=F4 at*
 have ho:bA F4 3 1 ⟨some ⟨b4,0,none⟩,0,0⟩ (il []):=.inr ⟨b4,#[],rfl,q4,rfl,Nat.le_refl _,rfl,rfl⟩
 refine gK (F0:=F) Hq Ho Hp rfl (by decide) l4 ho (fun a ha=>by cases ha;exact hb4) (h.le l4) (Te ns) (by simp only;omega) (by simp only;omega) ?_
 intro s' F5 le5 ho5 hl5 hnew5 _ _
 rw [show il []++il ns=il ns from rfl] at ho5
 refine ⟨s',rfl,fun m o i F'=>∃j:Nat,i=j/\j<=ms.length/\m=ms.length - j/\Ov 3 F F' o (il (tog ns (ms.take j))),ms.length,⟨0,rfl,by omega,rfl,⟨le5,by simpa [tog] using ho5,hnew5⟩⟩,?_⟩
 clear hnew5 ho5 le5 l4 q4 hb4 ho
 rintro _ o _ F6 ⟨j,rfl,hj,rfl,hO⟩
 unfold A3
 refine ⟨fun hlt=> ?_,fun hge=> ?_⟩
 ·have hjl:j<ms.length:=by omega
  have hlen:(tog ns (ms.take j)).length<=400000:=by
   have:=Jq (ms.take j) ns
   rw [List.length_take] at this
   omega
  have hx:ms[j]? =some ms[j]:=List.getElem?_eq_getElem hjl
  obtain ⟨a,ha,hc⟩:=vQ (h2.le hO.le) hjl
  refine ⟨a,ha,by omega,by omega,_,hc,?_⟩
  refine (B9 hO.own.rd (by omega) _).mono ?_
  rintro _ F7 ⟨rfl,e⟩
  obtain rfl:=e.symm
  have htk:tog ns (ms.take (j+1))=if ms[j]∈tog ns (ms.take j) then tog ns (ms.take j) else tog ns (ms.take j)++[ms[j]]:=by
   rw [List.take_add_one,hx]
   exact xD _ _ _
  refine ⟨_,rfl,fun hno=>⟨a,ha,by omega,by omega,_,hc,?_⟩,fun hin=> ?_⟩
  ·have hno':ms[j] ∉ tog ns (ms.take j):=by simpa using hno
   rw [if_neg hno'] at htk
   refine hO.push (t:=70) Hq Ho Hp rfl (by decide) ⟨fun _ h=>(by cases h),fun _ h=>(by cases h)⟩ (by rw [hO.len];simp [il];omega) fun s' F' h'=> ?_
   unfold nV
   refine ⟨ms.length - (j+1),by omega,j+1,fd (by omega),by omega,rfl,?_⟩
   rw [htk,Hi]
   exact h'
  ·have hin':ms[j]∈tog ns (ms.take j):=by simpa using hin
   rw [if_pos hin'] at htk
   unfold nV
   refine ⟨ms.length - (j+1),by omega,j+1,fd (by omega),by omega,rfl,?_⟩
   rw [htk]
   exact hO
 ·unfold A2
  obtain rfl:j=ms.length:=by omega
  rw [List.take_length] at hO
  exact ⟨⟨_,rfl,hO.own.rd⟩,hO.le⟩
end
def fo (w:List Nat) (lo hi:Nat) (fr:List Nat):List Nat:=(fr.filter fun f=>decide (f<w.length/\lo<=w.getD f 0/\w.getD f 0<=hi)).map (· +1)
theorem zr (w:List Nat) (lo hi:Nat) (fr:List Nat) (f:Nat):fo w lo hi (fr++[f])=if f<w.length/\lo<=w.getD f 0/\w.getD f 0<=hi then fo w lo hi fr++[f+1] else fo w lo hi fr:=by
 unfold fo
 rw [List.filter_append,List.map_append,List.filter_cons]
 split
 ·rename_i h
  rw [if_pos (by simpa using h)]
  rfl
 ·rename_i h
  rw [if_neg (by simpa using h)]
  simp
theorem xE {w:List Nat} {lo hi:Nat} {fr:List Nat} (h:fr.Nodup):(fo w lo hi fr).Nodup:=by
 unfold fo
 refine List.Pairwise.map (R:=(·≠·)) _ (fun a b hab=>by omega) ?_
 exact List.Pairwise.sublist List.filter_sublist h
theorem Du {w:List Nat} {lo hi:Nat} {fr:List Nat} (e:Nat):e∈fo w lo hi fr↔Bh (Lg (.rng lo hi)) w fr e:=by
 unfold fo
 simp only [List.mem_map,List.mem_filter,decide_eq_true_eq]
 constructor
 ·rintro ⟨f,⟨hf,h1,h2,h3⟩,rfl⟩
  refine ⟨f,hf,by omega,by omega,w.getD f 0,?_,h2,h3⟩
  rw [B8 h1,List.getD_eq_getElem?_getD,List.getElem?_eq_getElem h1]
  rfl
 ·rintro ⟨f,hf,h1,h2,b,hb,h3,h4⟩
  have hl:=ii h1 h2
  rw [hb] at hl
  simp at hl
  obtain rfl:e=f+1:=by omega
  rw [B8 (by omega)] at hb
  simp at hb
  refine ⟨f,⟨hf,by omega,?_⟩,rfl⟩
  rw [List.getD_eq_getElem?_getD,List.getElem?_eq_getElem (by omega)]
  simp only [Option.getD_some]
  omega
section
variable {F:PH}
def BhR (F:PH) (v:Value) (P:List Nat->Prop) (w fr:List Nat):Prop:=∃o:List Nat,IlV F v o/\o.Nodup/\∀e,e∈o↔Bh P w fr e
theorem IlV.le {F G:PH} {v:Value} {o:List Nat} (h:IlV F v o) (hl:F.le G):IlV G v o:=by
 obtain ⟨s,e,h⟩:=h
 exact ⟨s,e,h.le hl⟩
theorem xF {P:List Nat->Prop} {w fr o:List Nat} (h:∀e,e∈o↔Bh P w fr e):∀e∈o,e<=w.length:=fun e he=>by
 obtain ⟨f,_,_,h2,_⟩:=(h e).1 he
 exact h2
theorem zt {s2:Sl} {fr:List Nat} {st:ByteArray} {lo hi b9 b17:Nat} {F1:PH} {x:Nd} {R:Value->PH->Prop} (h2:RdS F1 s2 1 (il fr)) (hfl:fr.length<=100001) (hfb:∀f∈fr,f<=st.size) (hst:st.size<=100000) (q9:F1 b9=some (.cells x.arr 97)) (hlo:x.lo=lo) (hhi:x.hi=hi) (hb17:F1 b17=none)
  (hR:∀v F',F1.le F'->IlV F' v (fo (bs st) lo hi fr)->R v F'):
  ∃(I2:Nat->Sl->Int->PH->Prop) (m2:Nat),I2 m2 (Sl.mk (some (Addr.mk b17 0 none)) 0 0) (0:Int) (F1.set b17 (.cells #[] 3))/\∀m2 out_10_3 k_11 F,I2 m2 out_10_3 k_11 F->
   uI (fun y2_0 y2_1 F=>∃m',m'<m2/\I2 m' y2_0 y2_1 F) st s2 b9 R out_10_3 k_11 F:=by
 have hl2:=mD h2
 have hwl:=bL st
 refine ⟨fun m o k F'=>∃j:Nat,k=j/\j<=fr.length/\m=fr.length - j/\Ov 3 F1 F' o (il (fo (bs st) lo hi (fr.take j))),fr.length,⟨0,rfl,by omega,rfl,⟨ac _ hb17,.inr ⟨b17,#[],rfl,an _ _ _,rfl,Nat.le_refl _,rfl,rfl⟩,fun a ha=>by cases ha;exact hb17⟩⟩,?_⟩
 rintro _ o _ F6 ⟨j,rfl,hj,rfl,hO⟩
 unfold uI
 refine ⟨fun hlt=> ?_,fun hge=> ?_⟩
 ·have hjl:j<fr.length:=by omega
  have hlen:(fo (bs st) lo hi (fr.take j)).length<=100001:=by
   unfold fo
   rw [List.length_map]
   refine Nat.le_trans (List.length_filter_le _ _) ?_
   rw [List.length_take]
   omega
  have hx:fr[j]? =some fr[j]:=List.getElem?_eq_getElem hjl
  obtain ⟨a,ha,hc⟩:=vQ (h2.le hO.le) hjl
  have hfj:=hfb _ (List.getElem_mem hjl)
  have htk:fo (bs st) lo hi (fr.take (j+1))=if fr[j]<(bs st).length/\lo<=(bs st).getD fr[j] 0/\(bs st).getD fr[j] 0<=hi then fo (bs st) lo hi (fr.take j)++[fr[j]+1] else fo (bs st) lo hi (fr.take j):=by
   rw [List.take_add_one,hx]
   exact zr _ _ _ _ _
  generalize fr[j]=f at*
  have j5:∀bb:Bool,(bb=true↔f<(bs st).length/\lo<=(bs st).getD f 0/\(bs st).getD f 0<=hi)->lu (fun y2_0 y2_1 F=>∃m',m'<fr.length - j/\∃j:Nat,y2_1=j/\j<=fr.length/\m'=fr.length - j/\Ov 3 F1 F y2_0 (il (fo (bs st) lo hi (fr.take j)))) st s2 b9 o j bb R F6:=fun bb hbb=>by
   unfold lu
   refine ⟨fun ht=>⟨a,ha,by omega,by omega,_,hc,?_⟩,fun hf=> ?_⟩
   ·rw [if_pos (hbb.1 ht)] at htk
    rw [fd (by omega)]
    refine hO.push (t:=70) Hq Ho Hp rfl (by decide) iC (by rw [hO.len];simp [il];omega) fun s' F' h'=> ?_
    unfold nU
    refine ⟨fr.length - (j+1),by omega,j+1,fd (by omega),by omega,rfl,?_⟩
    rw [htk,Hi]
    exact h'
   ·rw [if_neg (fun h=>by rw [hbb.2 h] at hf;cases hf)] at htk
    unfold nU
    refine ⟨fr.length - (j+1),by omega,j+1,fd (by omega),by omega,rfl,?_⟩
    rw [htk]
    exact hO
  have c1:F6.cell (Addr.mk b9 1 none)=some (vi lo):=by rw [am (hO.le _ _ q9),<- hlo];rfl
  have c2:F6.cell (Addr.mk b9 2 none)=some (vi hi):=by rw [am (hO.le _ _ q9),<- hhi];rfl
  refine ⟨a,ha,by omega,by omega,_,hc,fun hlt2=> ?_,fun hge2=>j5 false ⟨fun h=>(by cases h),fun h=>absurd h.1 (by omega)⟩⟩
  have hfs:f<st.size:=by omega
  have hget:∀hx:Int.toNat (f:Int)<st.size,IntKind.i64.wrap ((st[Int.toNat (f:Int)]'hx).toNat:Int)=(((bs st).getD f 0:Nat):Int):=fun hx=>by
   have e:(st[Int.toNat (f:Int)]'hx).toNat=(bs st).getD f 0:=by
    rw [<- Gu]
    unfold cb
    simp only [Int.toNat_natCast] at hx
    rw [dif_pos hx]
    rfl
   have h256:(bs st).getD f 0<256:=by
    rw [List.getD_eq_getElem?_getD,List.getElem?_eq_getElem (by omega:f<(bs st).length)]
    exact Qs st _ (List.getElem_mem _)
   rw [e,aN (by omega) (by omega)]
  refine ⟨a,ha,by omega,by omega,_,hc,by omega,by omega,by rw [Int.toNat_natCast];exact hfs,_,rfl,_,c1,fun hle=>⟨a,ha,by omega,by omega,_,hc,by omega,by omega,by rw [Int.toNat_natCast];exact hfs,_,rfl,_,c2,j5 _ ?_⟩,fun hgt=>j5 false ⟨fun h=>(by cases h),fun h=> ?_⟩⟩
  ·rw [hget] at hle
   rw [hget,decide_eq_true_eq]
   omega
  ·rw [hget] at hgt
   omega
 ·unfold A1
  obtain rfl:j=fr.length:=by omega
  rw [List.take_length] at hO
  exact hR _ _ hO.le ⟨_,rfl,hO.own.rd⟩
theorem zv {l:List Nd} {p:Sl} {st:ByteArray} (hst:st.size<=100000) {i:Nat} {t:Lt} {ns:List Nat} (h:cu l i t ns):∀{F:PH} {s2:Sl} {fr:List Nat},RdS F p 5 (dG l)->RdS F s2 1 (il fr)->fr.Nodup->(∀f∈fr,f<=st.size)->
  ae prog 239 #[p.v,vi i,.string st,s2.v] F fun r F'=>BhR F' r (Lg t.pat) (bs st) fr/\F.le F':=by
 have hwl:=bL st
 have few:∀{o:List Nat},o.Nodup->(∀e∈o,e<=(bs st).length)->o.length<=100001:=fun h1 h2=>by have:=ik h1 h2;omega
 induction h with
 | @emp i x hx hk=>
  intro F s2 fr hs h2 hnd hfb
  have hlen:=hs.nlen
  have hi:=(List.getElem?_eq_some_iff.1 hx).1
  obtain ⟨a,ha,hrow⟩:=rdn hs hx
  refine xo ?_
  unfold td
  refine ⟨a,ha,by omega,by omega,x.arr,rfl,hrow,fun b9 hb9=> ?_⟩
  refine atI ?_
  refine stW (an _ _ _) rfl rfl (dJ x) ?_
  rw [aR]
  intro b17 hb17
  refine atI ?_
  have l9:F.le (F.set b9 (.cells x.arr 97)):=ac _ hb9
  have q9:=an F b9 (.cells x.arr 97)
  generalize F.set b9 (.cells x.arr 97)=F1 at*
  refine ⟨x.k,by rw [am (ac _ hb17 _ _ q9)];rfl,fun _=>⟨⟨fr,⟨_,rfl,h2.le (aa l9 (ac _ hb17))⟩,hnd,fun e=> ?_⟩,aa l9 (ac _ hb17)⟩,fun h=>absurd hk h⟩
  exact (NZ (fun f hf=>by rw [hwl];exact hfb f hf) e).symm
 | @rng i lo hi x hx hk hlo hhi hle h255=>
  intro F s2 fr hs h2 hnd hfb
  have hlen:=hs.nlen
  have hi':=(List.getElem?_eq_some_iff.1 hx).1
  obtain ⟨a,ha,hrow⟩:=rdn hs hx
  refine xo ?_
  unfold td
  refine ⟨a,ha,by omega,by omega,x.arr,rfl,hrow,fun b9 hb9=> ?_⟩
  refine atI ?_
  refine stW (an _ _ _) rfl rfl (dJ x) ?_
  rw [aR]
  intro b17 hb17
  refine atI ?_
  have l9:F.le (F.set b9 (.cells x.arr 97)):=ac _ hb9
  have q9:=an F b9 (.cells x.arr 97)
  generalize F.set b9 (.cells x.arr 97)=F1 at*
  refine ⟨x.k,by rw [am (ac _ hb17 _ _ q9)];rfl,fun h=>absurd h (by omega),fun _=>⟨fun _=> ?_,fun h=>absurd hk h⟩⟩
  refine zt (h2.le l9) (few hnd fun f hf=>by rw [hwl];exact hfb f hf) hfb hst q9 hlo hhi hb17 fun v F' hl' hv=> ?_
  exact ⟨⟨_,hv,xE hnd,fun e=>Du e⟩,aa l9 hl'⟩
 | @seq i a b x t u na nb hx hk hxa hxb ht hu it iu=>
  intro F s2 fr hs h2 hnd hfb
  have hlen:=hs.nlen
  have hi':=(List.getElem?_eq_some_iff.1 hx).1
  obtain ⟨ad,had,hrow⟩:=rdn hs hx
  refine xo ?_
  unfold td
  refine ⟨ad,had,by omega,by omega,x.arr,rfl,hrow,fun b9 hb9=> ?_⟩
  refine atI ?_
  refine stW (an _ _ _) rfl rfl (dJ x) ?_
  rw [aR]
  intro b17 hb17
  refine atI ?_
  have q9:=ac (.cells #[] 3) hb17 _ _ (an F b9 (.cells x.arr 97))
  have l9:=aa (ac (.cells x.arr 97) hb9) (ac (.cells #[] 3) hb17)
  generalize (F.set b9 (.cells x.arr 97)).set b17 (.cells #[] 3)=F1 at*
  have c1:∀{G:PH},F1.le G->G.cell (Addr.mk b9 3 none)=some (vi a):=fun h=>by rw [am (h _ _ q9),<- hxa];rfl
  have c2:∀{G:PH},F1.le G->G.cell (Addr.mk b9 4 none)=some (vi b):=fun h=>by rw [am (h _ _ q9),<- hxb];rfl
  refine ⟨x.k,by rw [am q9];rfl,fun h=>absurd h (by omega),fun _=>⟨fun h=>absurd h (by omega),fun _=>⟨fun _=> ?_,fun h=>absurd hk h⟩⟩⟩
  refine ⟨_,c2 (le_refl' _),_,c1 (le_refl' _),?_⟩
  refine (it (hs.le l9) (h2.le l9) hnd hfb).mono ?_
  rintro _ F2 ⟨⟨o,⟨s3,rfl,h3⟩,ho,hoe⟩,l2⟩
  refine ⟨s3,rfl,c2 l2,?_⟩
  refine (iu (hs.le (aa l9 l2)) h3 ho fun f hf=>by rw [<- hwl];exact xF hoe f hf).mono ?_
  rintro _ F3 ⟨⟨o2,⟨s4,rfl,h4⟩,ho2,hoe2⟩,l3⟩
  refine ⟨s4,rfl,⟨o2,⟨s4,rfl,h4⟩,ho2,fun e=> ?_⟩,aa l9 (aa l2 l3)⟩
  rw [hoe2 e]
  exact N0 hoe e
 | @alt i a b x t u na nb hx hk hxa hxb ht hu it iu=>
  intro F s2 fr hs h2 hnd hfb
  have hlen:=hs.nlen
  have hi':=(List.getElem?_eq_some_iff.1 hx).1
  obtain ⟨ad,had,hrow⟩:=rdn hs hx
  refine xo ?_
  unfold td
  refine ⟨ad,had,by omega,by omega,x.arr,rfl,hrow,fun b9 hb9=> ?_⟩
  refine atI ?_
  refine stW (an _ _ _) rfl rfl (dJ x) ?_
  rw [aR]
  intro b17 hb17
  refine atI ?_
  have q9:=ac (.cells #[] 3) hb17 _ _ (an F b9 (.cells x.arr 97))
  have l9:=aa (ac (.cells x.arr 97) hb9) (ac (.cells #[] 3) hb17)
  generalize (F.set b9 (.cells x.arr 97)).set b17 (.cells #[] 3)=F1 at*
  have c1:∀{G:PH},F1.le G->G.cell (Addr.mk b9 3 none)=some (vi a):=fun h=>by rw [am (h _ _ q9),<- hxa];rfl
  have c2:∀{G:PH},F1.le G->G.cell (Addr.mk b9 4 none)=some (vi b):=fun h=>by rw [am (h _ _ q9),<- hxb];rfl
  refine ⟨x.k,by rw [am q9];rfl,fun h=>absurd h (by omega),fun _=>⟨fun h=>absurd h (by omega),fun _=>⟨fun h=>absurd h (by omega),fun _=>⟨fun _=> ?_,fun h=>absurd hk h⟩⟩⟩⟩
  refine ⟨_,c1 (le_refl' _),_,c2 (le_refl' _),?_⟩
  refine (it (hs.le l9) (h2.le l9) hnd hfb).mono ?_
  rintro _ F2 ⟨⟨o,⟨s3,rfl,h3⟩,ho,hoe⟩,l2⟩
  refine ⟨s3,rfl,c2 l2,?_⟩
  refine (iu (hs.le (aa l9 l2)) (h2.le (aa l9 l2)) hnd hfb).mono ?_
  rintro _ F3 ⟨⟨o2,⟨s4,rfl,h4⟩,ho2,hoe2⟩,l3⟩
  refine ⟨s4,rfl,?_⟩
  have n1:=few ho (xF hoe)
  have n2:=few ho2 (xF hoe2)
  refine (lT (h3.le l3) h4 (by omega) (by omega)).mono ?_
  rintro _ F4 ⟨⟨s5,rfl,h5⟩,l4⟩
  refine ⟨s5,rfl,⟨_,⟨s5,rfl,h5⟩,mC _ _ ho,fun e=> ?_⟩,aa l9 (aa l2 (aa l3 l4))⟩
  rw [ij,hoe,hoe2]
  exact (N7 e).symm
 | @rep i a x t na hx hk hxa ht it=>
  intro F s2 fr hs h2 hnd hfb
  have hlen:=hs.nlen
  have hi':=(List.getElem?_eq_some_iff.1 hx).1
  obtain ⟨ad,had,hrow⟩:=rdn hs hx
  refine xo ?_
  unfold td
  refine ⟨ad,had,by omega,by omega,x.arr,rfl,hrow,fun b9 hb9=> ?_⟩
  refine atI ?_
  refine stW (an _ _ _) rfl rfl (dJ x) ?_
  rw [aR]
  intro b17 hb17
  refine atI ?_
  have q9:=ac (.cells #[] 3) hb17 _ _ (an F b9 (.cells x.arr 97))
  have l9:=aa (ac (.cells x.arr 97) hb9) (ac (.cells #[] 3) hb17)
  generalize (F.set b9 (.cells x.arr 97)).set b17 (.cells #[] 3)=F1 at*
  have c1:∀{G:PH},F1.le G->G.cell (Addr.mk b9 3 none)=some (vi a):=fun h=>by rw [am (h _ _ q9),<- hxa];rfl
  refine ⟨x.k,by rw [am q9];rfl,fun h=>absurd h (by omega),fun _=>⟨fun h=>absurd h (by omega),fun _=>⟨fun h=>absurd h (by omega),fun _=>⟨fun h=>absurd h (by omega),fun _=> ?_⟩⟩⟩⟩
  unfold A0
  refine ⟨fun m os n F'=>∃(o:List Nat) (k:Nat),n=(k:Int) - 1/\k<=o.length+1/\m=st.size+3 - k/\F1.le F'/\RdS F' os 1 (il o)/\o.Nodup/\(∀f∈fr,f∈o)/\(∀e∈o,Bh (Lg (.rep t.pat)) (bs st) fr e)/\(k=o.length+1->∀e,Bh (Lg t.pat) (bs st) o e->e∈o),st.size+3,
   ⟨fr,0,by omega,by omega,by omega,le_refl' _,h2.le l9,hnd,fun _ h=>h,fun e he=>⟨e,he,Nat.le_refl _,by rw [hwl];exact hfb e he,by rw [xC];exact .nil⟩,fun h=>by omega⟩,?_⟩
  rintro _ os _ F2 ⟨o,k,rfl,hk',rfl,l2,h3,ho,hfo,hoe,hcl⟩
  unfold AZ
  have hos:=mD h3
  have hob:∀e∈o,e<=(bs st).length:=fun e he=>by obtain ⟨f,_,_,g,_⟩:=hoe e he;exact g
  have hfew:=ik ho hob
  refine ⟨fun hlt=> ?_,fun hge=> ?_⟩
  ·refine ⟨_,c1 l2,?_⟩
   refine (it (hs.le (aa l9 l2)) h3 ho fun f hf=>by rw [<- hwl];exact hob f hf).mono ?_
   rintro _ F3 ⟨⟨o2,⟨s4,rfl,h4⟩,ho2,hoe2⟩,l3⟩
   refine ⟨s4,rfl,?_⟩
   have n2:=few ho2 (xF hoe2)
   refine (lT (h3.le l3) h4 (by omega) (by omega)).mono ?_
   rintro _ F4 ⟨⟨s5,rfl,h5⟩,l4⟩
   obtain ⟨kk,hkk⟩:=vP o2 o
   refine ⟨s5,rfl,st.size+3 - (o.length+1),by omega,tog o o2,o.length+1,by omega,by rw [hkk,List.length_append];omega,rfl,aa l2 (aa l3 l4),h5,mC _ _ ho,fun f hf=>(ij f o2 o).2 (.inl (hfo f hf)),fun e he=> ?_,fun hfull e he=> ?_⟩
   ·rcases (ij e o2 o).1 he with h|h
    ·exact hoe e h
    ·exact Jp hoe ((hoe2 e).1 h)
   ·have hall:=Hh (o:=o) (ms:=o2) (by omega)
    refine (ij e o2 o).2 (.inr ((hoe2 e).2 ?_))
    obtain ⟨f,hf,g⟩:=he
    refine ⟨f,?_,g⟩
    rcases (ij f o2 o).1 hf with h|h
    ·exact h
    ·exact hall f h
  ·unfold AY
   exact ⟨⟨o,⟨os,rfl,h3⟩,ho,N8 hfo hoe (hcl (by omega))⟩,aa l9 l2⟩
theorem Hj {P:List Nat->Prop} {w:List Nat}:Bh P w [0] w.length↔P w:=by
 constructor
 ·rintro ⟨f,hf,_,_,h⟩
  simp at hf
  subst hf
  simpa [slc] using h
 ·intro h
  exact ⟨0,by simp,by omega,Nat.le_refl _,by simpa [slc] using h⟩
theorem nk {s:Sl} {l:List Nd} (hs:RdS F s 5 (dG l)) (st:ByteArray) (hst:st.size<=100000):ae prog 219 #[s.v,.string st] F fun r F'=>(∃q:Bool,r=.bool q/\(q=true↔fh l=0/\LgL l (bs st)))/\F.le F':=by
 refine Qi ?_
 unfold Kn
 refine (jG hs).mono ?_
 rintro _ F2 ⟨rfl,l2⟩
 refine ⟨_,rfl,fun h0=> ?_,fun h0=>⟨⟨false,rfl,fun h=>(by cases h),fun h=>absurd h.1 h0⟩,l2⟩⟩
 obtain ⟨hG,hl⟩:=ta h0
 obtain ⟨ns,ht⟩:=fN hG
 have hlen:=hs.nlen
 have hne:=List.length_pos_iff.2 hG.ne
 have ew:IntKind.i64.wrap ((s.len:Int) - 1)=((l.length - 1:Nat):Int):=by rw [hlen,aN (by omega) (by omega)];omega
 rw [ew]
 intro b14 hb14
 refine atI ?_
 have l14:F2.le (F2.set b14 (.cells #[.int .i64 0] 3)):=ac _ hb14
 have q14:=an F2 b14 (.cells #[.int .i64 0] 3)
 generalize F2.set b14 (.cells #[.int .i64 0] 3)=F3 at*
 refine (zv hst ht (s2:=⟨some ⟨b14,0,none⟩,1,1⟩) (fr:=[0]) (hs.le (aa l2 l14)) (RdS.new q14 rfl rfl (Nat.le_refl _)) (by simp) (by simp)).mono ?_
 rintro _ F4 ⟨⟨o,⟨s4,rfl,h4⟩,ho,hoe⟩,l4⟩
 refine ⟨s4,rfl,?_⟩
 have n2:=ik ho (xF hoe)
 rw [bL] at n2
 refine (B9 h4 (by omega) st.size).mono ?_
 rintro _ F5 ⟨rfl,e⟩
 obtain rfl:=e.symm
 refine ⟨_,rfl,⟨_,rfl,?_⟩,aa (aa l2 l14) l4⟩
 rw [decide_eq_true_eq,hoe,<- bL,Hj]
 exact ⟨fun h=>⟨h0,h⟩,fun h=>h.2⟩
end
end Go.Proofs.YtenpmjhnhepfdaaGreatDoor

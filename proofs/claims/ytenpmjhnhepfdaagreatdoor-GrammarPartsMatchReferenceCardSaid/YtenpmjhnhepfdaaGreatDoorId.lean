/-
  The tokens of made grammars; a grammar without productions.
-/
import Derived.Test.YtenpmjhnhepfdaaGreatDoorHr
import Derived.Test.YtenpmjhnhepfdaaGreatDoorHb
import Derived.Test.YtenpmjhnhepfdaaGreatDoorGkoineref05
namespace Go.Proofs.YtenpmjhnhepfdaaGreatDoor
open Go Go.Proofs.Tryz Tr
set_option maxRecDepth 10000
variable {F:PH}
theorem EZ (i:Int) (F:PH):ae prog 114 #[vi i] F fun r F'=>r=.agg (Sy.arr ⟨false,i⟩)/\F.le F':=by
 refine SA ?_
 unfold LL
 refine (St.start F).new fun b F1 h=> ?_
 refine h.put0 (w':=(Sy.arr ⟨false,i⟩)) rfl rfl (by simp [ai]) fun F2 h=> ?_
 exact ⟨_,rfl,h.whole0,rfl,h.le⟩
theorem yl (i:Int) (F:PH):ae prog 40 #[vi i] F fun r F'=>r=.agg (Sy.arr ⟨true,i⟩)/\F.le F':=by
 refine US ?_
 unfold Sd
 refine (St.start F).new fun b F1 h=> ?_
 refine h.put0 (w':=(Sy.arr ⟨true,i⟩)) rfl rfl (by simp [ai]) fun F2 h=> ?_
 exact ⟨_,rfl,h.whole0,rfl,h.le⟩
theorem dr (lo hi:Int) (F:PH):ae prog 172 #[vi lo,vi hi] F fun r F'=>r=.agg (Nd.arr ⟨1,lo,hi,0,0⟩)/\F.le F':=by
 refine ST ?_
 unfold L6
 refine (St.start F).new fun b F1 h=> ?_
 refine h.put0 (w':=(Nd.arr ⟨1,lo,hi,0,0⟩)) rfl rfl (by simp [ai]) fun F2 h=> ?_
 exact ⟨_,rfl,h.whole0,rfl,h.le⟩
theorem bQ (k x y:Int) (F:PH):ae prog 173 #[vi k,vi x,vi y] F fun r F'=>r=.agg (Nd.arr ⟨k,0,0,x,y⟩)/\F.le F':=by
 refine SU ?_
 unfold L7
 refine (St.start F).new fun b F1 h=> ?_
 refine h.put0 (w':=(Nd.arr ⟨k,0,0,x,y⟩)) rfl rfl (by simp [ai]) fun F2 h=> ?_
 exact ⟨_,rfl,h.whole0,rfl,h.le⟩
theorem DV.out {v:Array Value} {d:Dia} (h:DV F v d):∃s,v= #[s.v,vi d.2]/\RL F s d.1:=by
 obtain ⟨s,h1,h2⟩:=h
 exact ⟨s,h1,RL.brs.2 h2⟩
abbrev aJ:Dia:=dia (leaf true)
abbrev ur (d:Dia) (r:Value) (F:PH):Prop:=∃w,r=.agg w/\DV F w d
theorem gu (F:PH):ae prog 89 #[.bool true] F fun r F'=>ur aJ r F'/\F.le F':=
 (cE true).mono fun _ _ ⟨w,h1,h2,h3⟩=>⟨⟨w,h1,h2⟩,h3⟩
abbrev ba (nm:ByteArray) (left:Int) (right:List Sy):Pr:=⟨nm,left,right,aJ,false,0,[],⟨false,0,0,0,0⟩⟩
theorem sS (nm:ByteArray) (left:Int) {s:Sl} {right:List Sy} {F:PH} (hs:RL F s right):ae prog 39 #[.string nm,vi left,s.v] F fun r F'=>(∃w,r=.agg w/\Mem.rep F' (ba nm left right) w)/\F.le F':=by
 refine Sc ?_
 unfold NS
 refine (St.start F).new fun b F1 h=> ?_
 refine h.run (gu _) fun _ G F2 hr l h=> ?_
 obtain ⟨w,rfl,hw⟩:=hr
 obtain ⟨n,rfl,hn⟩:=hw.out
 refine ⟨_,rfl,rfl,?_⟩
 refine h.put0 (w':=(ba nm left right).arr s n Sl.nil) rfl rfl (by simp [ai,Sl.v]) fun F2 h=> ?_
 exact ⟨_,rfl,h.whole0,⟨_,rfl,s,n,Sl.nil,rfl,(hs.le l).le h.le,hn.le h.le,.nil _⟩,aa l h.le⟩
theorem aL (v:Nat) (hv:v<=63) (F:PH):ae prog 96 #[vi v] F fun r F'=>ur (dia (tv v)) r F'/\F.le F':=by
 refine U0 ?_
 unfold Sn
 refine (St.start F).new fun b F1 h=> ?_
 refine h.run (sW (v:Int)) fun _ G F2 hr l h=> ?_
 obtain ⟨w,rfl,hw⟩:=hr
 have e:rN (v:Int)=(dia (tv v),0):=by unfold rN;rw [if_neg (by omega)];simp
 rw [e] at hw ⊢
 obtain ⟨n,rfl,hn⟩:=hw.out
 refine ⟨_,_,rfl,?_⟩
 refine h.new fun b3 F3 h=> ?_
 refine h.put0 (w':= #[n.v,vi (dia (tv v)).2]) rfl rfl (by simp [ai,Sl.v]) fun F2 h=> ?_
 refine ⟨_,rfl,h.whole0,?_⟩
 refine h.put1 (w':= #[n.v,vi (dia (tv v)).2]) rfl rfl (by simp [ai,Sl.v]) fun F2 h=> ?_
 exact ⟨_,rfl,h.whole1,⟨_,rfl,DV.mk (hn.le h.le)⟩,aa l h.le⟩
theorem E1 {n:Nat}:∀{vs:List (Array Value)} {k:Nat} {c:Array Value},(∀d∈vs,d.size=n)->vs[k]? =some c->∀{off:Nat} {v:List Value},off+v.length<=n->
  cat (vs.set k (wr c off v))=(cat vs).take (k*n+off)++v++(cat vs).drop (k*n+off+v.length)
 |[],k,c,_,hk,off,v,_=>by simp at hk
 |d::vs,0,c,hn,hk,off,v,ho=>by
  simp at hk
  subst hk
  have hd:d.size=n:=hn d (by simp)
  rw [List.set_cons_zero,cG,cG,Nat.zero_mul,Nat.zero_add]
  have hw:=fQ v d.toList off (by rw [Array.length_toList (xs:=d)];omega)
  rw [show d.toList.toArray=d by simp] at hw
  have hdl:d.toList.length=d.size:=Array.length_toList
  rw [hw,List.take_append_of_le_length (by omega),List.drop_append_of_le_length (by omega)]
  simp [List.append_assoc]
 |d::vs,k+1,c,hn,hk,off,v,ho=>by
  have hd:d.toList.length=n:=by rw [Array.length_toList];exact hn d (by simp)
  rw [List.set_cons_succ,cG,cG,E1 (fun x hx=>hn x (by simp [hx])) (by simpa using hk) ho]
  have e1:(k+1)*n+off=d.toList.length+(k*n+off):=by rw [hd,Nat.succ_mul];omega
  have e2:(k+1)*n+off+v.length=d.toList.length+(k*n+off+v.length):=by rw [hd,Nat.succ_mul];omega
  rw [e2,e1,List.take_length_add_append,List.drop_length_add_append]
  simp [List.append_assoc]
theorem Iu {α:Type} (L v:List α) {o M:Nat} (h:o+v.length<=M) (hM:M<=L.length):(L.take o++v++L.drop (o+v.length)).take M=(L.take M).take o++v++(L.take M).drop (o+v.length):=by
 have t1:(L.take o++v).length=o+v.length:=by rw [List.length_append,List.length_take];omega
 rw [List.take_append,t1,List.take_of_length_le (l:=L.take o++v) (by omega),List.take_take,Nat.min_eq_left (by omega),List.drop_take]
theorem St.elAt {G F:PH} {As:List (PH->Prop)} {s:Sl} {e n k:Nat} {vs:List (Array Value)} {c:Array Value} (h:St G F As) (i:Nat) (hi:As[i]? =some (own s e n (cat vs))) (hn:∀d∈vs,d.size=n) (hk:vs[k]? =some c) (h0:0<n):
  ∃b cur,s.base=some ⟨b,0,none⟩/\k<s.len/\F b=some (.cells cur e)/\k*n+n<=cur.size/\
   ∀off (v:List Value),off+v.length<=n->St G (F.set b (.cells (wr cur (k*n+off) v) e)) (As.set i (own s e n (cat (vs.set k (wr c off v))))):=by
 have hkl:k<vs.length:=(List.getElem?_eq_some_iff.1 hk).1
 have hlen:∀(l:List (Array Value)),(∀d∈l,d.size=n)->(cat l).length=l.length*n:=by
  intro l
  induction l with
  |nil=>intro _;simp [cat]
  |cons d l ih=>intro hd;rw [cG,List.length_append,ih (fun x hx=>hd x (by simp [hx])),Array.length_toList,hd d (by simp),List.length_cons,Nat.succ_mul,Nat.add_comm]
 have hl:=hlen vs hn
 obtain ⟨ho,-⟩:=h.ownAt hi
 rcases ho with ⟨rfl,hv⟩|⟨b,cur,h1,h2,h3,h4,h5,h6⟩
 ·rw [hv] at hl
  have h:=Nat.mul_pos (show 0<vs.length by omega) h0
  simp at hl
  omega
 ·have e1:s.len=vs.length:=by rw [hl] at h5;exact (Nat.eq_of_mul_eq_mul_right h0 h5).symm
  have hkn:k*n+n<=s.len*n:=by rw [<- Nat.succ_mul];exact Nat.mul_le_mul_right _ (by omega)
  have hcs:s.len*n<=cur.size:=by rw [h3];exact Nat.mul_le_mul_right _ h4
  refine ⟨b,cur,h1,by omega,h2,by omega,fun off v hv=> ?_⟩
  obtain ⟨H,a1,a2,a3,a4⟩:=h.set (A':=own s e n (cat (vs.set k (wr c off v)))) hi
  have hHb:H b≠none:=by
   rcases a1 with ⟨rfl,_⟩|⟨b',cur',g1,g2,_⟩
   ·cases h1
   ·rw [h1] at g1;cases g1;rw [g2];simp
  have hall:∀d∈vs.set k (wr c off v),d.size=n:=by
   intro d hd
   rcases List.mem_or_eq_of_mem_set hd with hd|rfl
   ·exact hn d hd
   ·rw [dH];exact hn c (List.mem_of_getElem? hk)
  refine a4 (PH.set (fun _=>none) b (.cells (wr cur (k*n+off) v) e)) _ (.inr ⟨b,_,h1,an _ _ _,by rw [dH,h3],h4,?_,?_⟩) (fun x hx=> ?_) (fun x p hx=> ?_) (fun x p hx hx'=> ?_)
  ·rw [hlen _ hall,List.length_set,e1]
  ·have hw:=fQ v cur.toList (k*n+off) (by rw [Array.length_toList (xs:=cur)];omega)
   rw [show cur.toList.toArray=cur by simp] at hw
   rw [hw,E1 hn hk hv,<- h6]
   exact Iu _ _ (by omega) (by rw [Array.length_toList (xs:=cur)];omega)
  ·by_cases ex:x=b
   ·rw [ex];exact .inl hHb
   ·rw [az _ _ ex] at hx;exact absurd rfl hx
  ·by_cases ex:x=b
   ·rw [ex,an] at hx ⊢;exact hx
   ·rw [az _ _ ex] at hx;cases hx
  ·have ex:x≠b:=fun ex=>by subst ex;exact hHb hx'
   rw [az _ _ ex];exact hx
theorem St.elN {G F:PH} {As:List (PH->Prop)} {s:Sl} {e n k:Nat} {vs:List (Array Value)} {c:Array Value} (h:St G F As) (i:Nat) (hi:As[i]? =some (own s e n (cat vs))) (hn:∀d∈vs,d.size=n) (hk:vs[k]? =some c) (h0:0<n)
  {off m:Nat} {v:Array Value} (hm:v.size=m) (hv:off+m<=n) (hst:∀x∈v.toList,ai x) {C:PH->Prop} (kk:∀F',St G F' (As.set i (own s e n (cat (vs.set k (wr c off v.toList)))))->C F'):
  ∃a:Addr,s.base=some a/\0<=(k:Int)/\(k:Int)<(s.len:Int)/\au F (Addr.add (Addr.add a (Int.toNat (k:Int)*n)) off) m v C:=by
 obtain ⟨b,cur,h1,h2,h3,h4,h5⟩:=h.elAt i hi hn hk h0
 have ea:Addr.add (Addr.add ⟨b,0,none⟩ (Int.toNat (k:Int)*n)) off=⟨b,k*n+off,none⟩:=by simp only [aK,Int.toNat_natCast,Nat.zero_add]
 refine ⟨_,h1,by omega,by omega,?_⟩
 rw [ea]
 exact ⟨hm,hst,cur,e,h3,rfl,(by show k*n+off+m<=cur.size;omega),atI (kk _ (h5 off v.toList (by rw [Array.length_toList];omega)))⟩
theorem St.el1 {G F:PH} {As:List (PH->Prop)} {s:Sl} {e n k:Nat} {vs:List (Array Value)} {c:Array Value} (h:St G F As) (i:Nat) (hi:As[i]? =some (own s e n (cat vs))) (hn:∀d∈vs,d.size=n) (hk:vs[k]? =some c) (h0:0<n)
  {off:Nat} {v:Value} (hv:off<n) {C:PH->Prop} (kk:∀F',St G F' (As.set i (own s e n (cat (vs.set k (c.setIfInBounds off v)))))->C F'):
  ∃a:Addr,s.base=some a/\0<=(k:Int)/\(k:Int)<(s.len:Int)/\sto F (Addr.add (Addr.add a (Int.toNat (k:Int)*n)) off) v C:=by
 obtain ⟨b,cur,h1,h2,h3,h4,h5⟩:=h.elAt i hi hn hk h0
 have ea:Addr.add (Addr.add ⟨b,0,none⟩ (Int.toNat (k:Int)*n)) off=⟨b,k*n+off,none⟩:=by simp only [aK,Int.toNat_natCast,Nat.zero_add]
 refine ⟨_,h1,by omega,by omega,?_⟩
 rw [ea]
 exact ⟨cur,e,h3,rfl,(by show k*n+off<cur.size;omega),atI (kk _ (h5 off [v] (by show off+1<=n;omega)))⟩
structure KF (K G F:PH) (b0 b1:Nat) (g:Gr) (c n t s sp l f:Sl) (vs:List (Array Value)):Prop where
 k:K.le G
 st:St G F [pt b1 (.cells (g.arr c n t s sp l f) 39),own sp 67 13 (cat vs),pt b0 (.cells zG 39)]
 r:bZ G g.prods vs
 c:RL G c g.conds
 n:RL G n g.fam.1
 t:RL G t g.toks
 s:RL G s g.nons
 l:RL G l g.lvs
 f:RL G f g.fils
def KS (K F:PH) (b0 b1:Nat) (g:Gr):Prop:=∃G c n t s sp l f vs,KF K G F b0 b1 g c n t s sp l f vs
section
variable {K G F:PH} {b0 b1:Nat} {g:Gr} {c n t s sp l f:Sl} {vs:List (Array Value)}
theorem KF.up {G' F':PH} (h:KF K G F b0 b1 g c n t s sp l f vs) (hl:G.le G') (st:St G' F' [pt b1 (.cells (g.arr c n t s sp l f) 39),own sp 67 13 (cat vs),pt b0 (.cells zG 39)]):KF K G' F' b0 b1 g c n t s sp l f vs:=
 ⟨aa h.k hl,st,h.r.le hl,h.c.le hl,h.n.le hl,h.t.le hl,h.s.le hl,h.l.le hl,h.f.le hl⟩
theorem KS.sub {K':PH} (h:KS K F b0 b1 g) (hl:K'.le K):KS K' F b0 b1 g:=by
 obtain ⟨G,c,n,t,s,sp,l,f,vs,h⟩:=h
 exact ⟨G,c,n,t,s,sp,l,f,vs,aa hl h.k,h.st,h.r,h.c,h.n,h.t,h.s,h.l,h.f⟩
theorem KF.sz (h:KF K G F b0 b1 g c n t s sp l f vs):∀d∈vs,d.size=13:=by
 have:∀{l:List Pr} {vs:List (Array Value)},bZ G l vs->∀d∈vs,d.size=13:=by
  intro l vs h
  induction h with
  |nil=>intro d hd;cases hd
  |cons h _ ih=>
   intro d hd
   rcases List.mem_cons.1 hd with rfl|hd
   ·exact Mem.len h
   ·exact ih d hd
 exact this h.r
theorem KF.len (h:KF K G F b0 b1 g c n t s sp l f vs):sp.len=g.prods.length:=by
 obtain ⟨ho,-⟩:=h.st.ownAt (i:=1) rfl
 have h1:=ho.rd.len
 have h2:=h.r.cat_len
 rw [h2] at h1
 have:g.prods.length*13=sp.len*13:=h1
 omega
def iU (fn:FuncId) (i:Int) (x:Sy):Prop:=∀F:PH,ae prog fn #[vi i] F fun r F'=>r=.agg x.arr/\F.le F'
theorem dW (i:Int):iU 114 i ⟨false,i⟩:=EZ i
theorem cJ (i:Int):iU 40 i ⟨true,i⟩:=yl i
theorem KF.add (h:KF K G F b0 b1 g c n t s sp l f vs) {nm:ByteArray} {left:Int} {sx:Sl} {right:List Sy} (hx:RL G sx right) (hl:g.prods.length<=1000) {C:PH->Prop}
  (k:∀F',KS K F' b0 b1 {g with prods:=g.prods++[ba nm left right]}->C F'):
  ae prog 39 #[.string nm,vi left,sx.v] F fun v F=>∃w:Array Value,v=.agg w/\F.cell (Addr.mk b1 5 none)=some (Sl.v sp)/\w.size=13/\∀b,F b=none->atF (F.set b (.cells w 67)) fun F=>
   aE prog (Builtin.append_ #[35,35] 35 #[Sl.v sp,Sl.v (Sl.mk (some (Addr.mk b 0 none)) 1 1)]) F fun v F=>∃s':Sl,v=Sl.v s'/\sto F (Addr.mk b1 5 none) (Sl.v s') C:=by
 obtain ⟨_,_,T⟩:=C5
 refine h.st.run (sS nm left hx) fun _ G' F' hr l1 st=> ?_
 obtain ⟨w,rfl,hw⟩:=hr
 refine ⟨w,rfl,st.ld0 rfl,Mem.len hw,st.push1 T (Mem.len hw) (Mem.st hw) (by have:=h.len;omega) fun s' G'' F'' l2 st' hlen=> ?_⟩
 rw [show cat vs++w.toList=cat (vs++[w]) by rw [bq,bG]] at st'
 refine st'.set0 (w':=Gr.arr {g with prods:=g.prods++[ba nm left right]} c n t s s' l f) (by show 5<9;decide) rfl fun F3 st=>k _ ?_
 have l3:=aa l1 l2
 exact ⟨G'',c,n,t,s,s',l,f,_,aa h.k l3,st,(h.r.le l3).append (.cons (Mem.le l2 hw) .nil),h.c.le l3,h.n.le l3,h.t.le l3,h.s.le l3,h.l.le l3,h.f.le l3⟩
theorem KF.el1 (h:KF K G F b0 b1 g c n t s sp l f vs) {k:Nat} {p p':Pr} (hp:g.prods[k]? =some p) {off:Nat} {v:Value} (ho:off<13) (hm:∀w,Mem.rep G p w->Mem.rep G p' (w.setIfInBounds off v)) {C:PH->Prop}
  (kk:∀F',KS K F' b0 b1 {g with prods:=g.prods.set k p'}->C F'):
  ∃a:Addr,sp.base=some a/\0<=(k:Int)/\(k:Int)<(sp.len:Int)/\sto F (Addr.add (Addr.add a (Int.toNat (k:Int)*13)) off) v C:=by
 obtain ⟨w,h1,h2,_⟩:=h.r.get hp
 refine h.st.el1 1 rfl h.sz h1 (by decide) ho fun F' st=>kk _ ?_
 exact ⟨G,c,n,t,s,sp,l,f,_,h.k,st,h.r.set (hm w h2),h.c,h.n,h.t,h.s,h.l,h.f⟩
theorem KF.elN (h:KF K G F b0 b1 g c n t s sp l f vs) {k:Nat} {p p':Pr} (hp:g.prods[k]? =some p) {off m:Nat} {v:Array Value} (hs:v.size=m) (ho:off+m<=13) (hst:∀x∈v.toList,ai x) (hm:∀w,Mem.rep G p w->Mem.rep G p' (wr w off v.toList)) {C:PH->Prop}
  (kk:∀F',KS K F' b0 b1 {g with prods:=g.prods.set k p'}->C F'):
  ∃a:Addr,sp.base=some a/\0<=(k:Int)/\(k:Int)<(sp.len:Int)/\au F (Addr.add (Addr.add a (Int.toNat (k:Int)*13)) off) m v C:=by
 obtain ⟨w,h1,h2,_⟩:=h.r.get hp
 refine h.st.elN 1 rfl h.sz h1 (by decide) hs ho hst fun F' st=>kk _ ?_
 exact ⟨G,c,n,t,s,sp,l,f,_,h.k,st,h.r.set (hm w h2),h.c,h.n,h.t,h.s,h.l,h.f⟩
theorem KS.set1 (h:KS K F b0 b1 g) (k:Nat) {p:Pr} (p':Pr) (hp:g.prods[k]? =some p) {off:Nat} {v:Value} (ho:off<13) (hm:∀(G:PH) w,Mem.rep G p w->Mem.rep G p' (w.setIfInBounds off v)) {C:PH->Prop}
  (kk:∀F',KS K F' b0 b1 {g with prods:=g.prods.set k p'}->C F'):
  ∃sp:Sl,F.cell (Addr.mk b1 5 none)=some (Sl.v sp)/\∃a:Addr,sp.base=some a/\0<=(k:Int)/\(k:Int)<(sp.len:Int)/\sto F (Addr.add (Addr.add a (Int.toNat (k:Int)*13)) off) v C:=by
 obtain ⟨G,c,n,t,s,sp,l,f,vs,h⟩:=h
 exact ⟨sp,h.st.ld0 rfl,h.el1 hp ho (hm G) kk⟩
theorem KS.setN (h:KS K F b0 b1 g) (k:Nat) {p:Pr} (p':Pr) (hp:g.prods[k]? =some p) {off m:Nat} {v:Array Value} (hs:v.size=m) (ho:off+m<=13) (hst:∀x∈v.toList,ai x) (hm:∀(G:PH) w,Mem.rep G p w->Mem.rep G p' (wr w off v.toList)) {C:PH->Prop}
  (kk:∀F',KS K F' b0 b1 {g with prods:=g.prods.set k p'}->C F'):
  ∃sp:Sl,F.cell (Addr.mk b1 5 none)=some (Sl.v sp)/\∃a:Addr,sp.base=some a/\0<=(k:Int)/\(k:Int)<(sp.len:Int)/\au F (Addr.add (Addr.add a (Int.toNat (k:Int)*13)) off) m v C:=by
 obtain ⟨G,c,n,t,s,sp,l,f,vs,h⟩:=h
 exact ⟨sp,h.st.ld0 rfl,h.elN hp hs ho hst (hm G) kk⟩
theorem KS.brk (h:KS K F b0 b1 g) (k:Nat) {p:Pr} (hp:g.prods[k]? =some p) {C:PH->Prop} (kk:∀F',KS K F' b0 b1 {g with prods:=g.prods.set k {p with brk:=true}}->C F'):
  ∃sp:Sl,F.cell (Addr.mk b1 5 none)=some (Sl.v sp)/\∃a:Addr,sp.base=some a/\0<=(k:Int)/\(k:Int)<(sp.len:Int)/\sto F (Addr.add (Addr.add a (Int.toNat (k:Int)*13)) 5) (.bool true) C:=
 h.set1 k {p with brk:=true} hp (by decide) (fun G w ⟨r,n,l,e,h1,h2,h3⟩=>⟨r,n,l,by rw [e];rfl,h1,h2,h3⟩) kk
theorem KS.rank (h:KS K F b0 b1 g) (k:Nat) {p:Pr} (hp:g.prods[k]? =some p) {x:Int} {C:PH->Prop} (kk:∀F',KS K F' b0 b1 {g with prods:=g.prods.set k {p with rank:=x}}->C F'):
  ∃sp:Sl,F.cell (Addr.mk b1 5 none)=some (Sl.v sp)/\∃a:Addr,sp.base=some a/\0<=(k:Int)/\(k:Int)<(sp.len:Int)/\sto F (Addr.add (Addr.add a (Int.toNat (k:Int)*13)) 6) (vi x) C:=
 h.set1 k {p with rank:=x} hp (by decide) (fun G w ⟨r,n,l,e,h1,h2,h3⟩=>⟨r,n,l,by rw [e];rfl,h1,h2,h3⟩) kk
theorem KS.sco (h:KS K F b0 b1 g) (k:Nat) {p:Pr} (hp:g.prods[k]? =some p) {x0:Bool} {x1 x2 x3 x4:Int} {C:PH->Prop} (kk:∀F',KS K F' b0 b1 {g with prods:=g.prods.set k {p with sco:=⟨x0,x1,x2,x3,x4⟩}}->C F'):
  ∃sp:Sl,F.cell (Addr.mk b1 5 none)=some (Sl.v sp)/\∃a:Addr,sp.base=some a/\0<=(k:Int)/\(k:Int)<(sp.len:Int)/\au F (Addr.add (Addr.add a (Int.toNat (k:Int)*13)) 8) 5 #[.bool x0,vi x1,vi x2,vi x3,vi x4] C:=
 h.setN k {p with sco:=⟨x0,x1,x2,x3,x4⟩} hp rfl (by show 8+5<=13;decide) (by simp [ai]) (fun G w ⟨r,n,l,e,h1,h2,h3⟩=>⟨r,n,l,by rw [e];rfl,h1,h2,h3⟩) kk
theorem KS.cnd (h:KS K F b0 b1 g) (k:Nat) {p:Pr} (hp:g.prods[k]? =some p) (v:Nat) (hv:v<=63) {C:PH->Prop} (kk:∀F',KS K F' b0 b1 {g with prods:=g.prods.set k {p with cond:=dia (tv v)}}->C F'):
  ∃sp:Sl,F.cell (Addr.mk b1 5 none)=some (Sl.v sp)/\ae prog 96 #[vi v] F fun r F=>∃w:Array Value,r=.agg w/\F.cell (Addr.mk b1 5 none)=some (Sl.v sp)/\
   ∃a:Addr,sp.base=some a/\0<=(k:Int)/\(k:Int)<(sp.len:Int)/\au F (Addr.add (Addr.add a (Int.toNat (k:Int)*13)) 3) 2 w C:=by
 obtain ⟨G,c,n,t,s,sp,l,f,vs,h⟩:=h
 refine ⟨sp,h.st.ld0 rfl,h.st.run (aL v hv _) fun _ G' F' hr l1 st=> ?_⟩
 obtain ⟨w,rfl,hw⟩:=hr
 obtain ⟨m,rfl,hm⟩:=hw.out
 refine ⟨_,rfl,st.ld0 rfl,(h.up l1 st).elN (p':={p with cond:=dia (tv v)}) hp rfl (by show 3+2<=13;decide) (by simp [ai,Sl.v]) (fun w ⟨r,n,l,e,h1,h2,h3⟩=>⟨r,m,l,by rw [e];rfl,h1,hm,h3⟩) kk⟩
theorem ym {F:PH} {b:Nat} {e:TypeId} {x:Cn} (q:F b=some (.cells x.arr e)):RL F (Sl.mk (some (Addr.mk b 0 none)) 1 1) [x]:=⟨[x.arr],.cons rfl .nil,RdS.new q rfl rfl (Nat.le_refl _)⟩
theorem M3 {F:PH} {b:Nat} {e:TypeId} {x y:Cn} (q:F b=some (.cells (wr (wr (#[.int .i64 0,.int .i64 0,.int .i64 0,.int .i64 0,.int .i64 0,.int .i64 0]:Array Value) 0 x.arr.toList) 3 y.arr.toList) e)):RL F (Sl.mk (some (Addr.mk b 0 none)) 2 2) [x,y]:=⟨[x.arr,y.arr],.cons rfl (.cons rfl .nil),RdS.new q rfl rfl (Nat.le_refl _)⟩
theorem KS.lay1 (h:KS K F b0 b1 g) (k:Nat) {p:Pr} (hp:g.prods[k]? =some p) {x1 x2 x3:Int} {C:PH->Prop} (kk:∀F',KS K F' b0 b1 {g with prods:=g.prods.set k {p with lay:=[⟨x1,x2,x3⟩]}}->C F'):
  ∃sp:Sl,F.cell (Addr.mk b1 5 none)=some (Sl.v sp)/\(#[vi x1,vi x2,vi x3]:Array Value).size=3/\∀b,F b=none->atF (F.set b (.cells (#[vi x1,vi x2,vi x3]:Array Value) 101)) fun F=>
   ∃a:Addr,sp.base=some a/\0<=(k:Int)/\(k:Int)<(sp.len:Int)/\sto F (Addr.add (Addr.add a (Int.toNat (k:Int)*13)) 7) (Sl.v (Sl.mk (some (Addr.mk b 0 none)) 1 1)) C:=by
 obtain ⟨G,c,n,t,s,sp,l,f,vs,h⟩:=h
 refine ⟨sp,h.st.ld0 rfl,rfl,h.st.newG fun b G' F' l1 q _ st=> ?_⟩
 exact (h.up l1 st).el1 (p':={p with lay:=[⟨x1,x2,x3⟩]}) hp (by decide) (fun w ⟨r,n,l,e,h1,h2,h3⟩=>⟨r,n,_,by rw [e];rfl,h1,h2,ym (x:=⟨x1,x2,x3⟩) q⟩) kk
theorem KS.lay2 (h:KS K F b0 b1 g) (k:Nat) {p:Pr} (hp:g.prods[k]? =some p) {x1 x2 x3 y1 y2 y3:Int} {C:PH->Prop} (kk:∀F',KS K F' b0 b1 {g with prods:=g.prods.set k {p with lay:=[⟨x1,x2,x3⟩,⟨y1,y2,y3⟩]}}->C F'):
  ∃sp:Sl,F.cell (Addr.mk b1 5 none)=some (Sl.v sp)/\(#[vi x1,vi x2,vi x3]:Array Value).size=3/\(#[vi y1,vi y2,vi y3]:Array Value).size=3/\
   ∀b,F b=none->atF (F.set b (.cells (wr (wr (#[.int .i64 0,.int .i64 0,.int .i64 0,.int .i64 0,.int .i64 0,.int .i64 0]:Array Value) 0 (#[vi x1,vi x2,vi x3]:Array Value).toList) 3 (#[vi y1,vi y2,vi y3]:Array Value).toList) 101)) fun F=>
   ∃a:Addr,sp.base=some a/\0<=(k:Int)/\(k:Int)<(sp.len:Int)/\sto F (Addr.add (Addr.add a (Int.toNat (k:Int)*13)) 7) (Sl.v (Sl.mk (some (Addr.mk b 0 none)) 2 2)) C:=by
 obtain ⟨G,c,n,t,s,sp,l,f,vs,h⟩:=h
 refine ⟨sp,h.st.ld0 rfl,rfl,rfl,h.st.newG fun b G' F' l1 q _ st=> ?_⟩
 exact (h.up l1 st).el1 (p':={p with lay:=[⟨x1,x2,x3⟩,⟨y1,y2,y3⟩]}) hp (by decide) (fun w ⟨r,n,l,e,h1,h2,h3⟩=>⟨r,n,_,by rw [e];rfl,h1,h2,M3 (x:=⟨x1,x2,x3⟩) (y:=⟨y1,y2,y3⟩) q⟩) kk
theorem KS.fin (h:KS K F b0 b1 g) {R:VR} (k:∀w F',GV F' w g->K.le F'->R (.agg w) F'):
  ∃v:Array Value,v.size=9/\F.row (Addr.mk b1 0 none) v/\au F (Addr.mk b0 0 none) 9 v fun F=>∃w:Array Value,w.size=9/\F.row (Addr.mk b0 0 none) w/\R (.agg w) F:=by
 obtain ⟨G,c,n,t,s,sp,l,f,vs,h⟩:=h
 refine ⟨_,rfl,h.st.whole0,?_⟩
 refine h.st.put2 (w':=g.arr c n t s sp l f) rfl rfl (by simp [ai,Sl.v]) fun F' st=> ?_
 obtain ⟨ho,-⟩:=st.ownAt (i:=1) rfl
 refine ⟨_,rfl,st.whole2,k _ _ ⟨c,n,t,s,sp,l,f,rfl,h.c.le st.le,h.n.le st.le,h.t.le st.le,h.s.le st.le,⟨vs,h.r.le st.le,ho.rd⟩,h.l.le st.le,h.f.le st.le⟩ (aa h.k st.le)⟩
theorem KS.lvs (h:KS K F b0 b1 g) {sx:Sl} {x:List Lv} (hx:RL K sx x) {C:PH->Prop} (kk:∀F',KS K F' b0 b1 {g with lvs:=x}->C F'):sto F (Addr.mk b1 7 none) (Sl.v sx) C:=by
 obtain ⟨G,c,n,t,s,sp,l,f,vs,h⟩:=h
 refine h.st.set0 (w':=Gr.arr {g with lvs:=x} c n t s sp sx f) (by show 7<9;decide) rfl fun F' st=>kk _ ?_
 exact ⟨G,c,n,t,s,sp,sx,f,vs,h.k,st,h.r,h.c,h.n,h.t,h.s,hx.le h.k,h.f⟩
theorem KS.fils (h:KS K F b0 b1 g) {sx:Sl} {x:List Fi} (hx:RL K sx x) {C:PH->Prop} (kk:∀F',KS K F' b0 b1 {g with fils:=x}->C F'):sto F (Addr.mk b1 8 none) (Sl.v sx) C:=by
 obtain ⟨G,c,n,t,s,sp,l,f,vs,h⟩:=h
 refine h.st.set0 (w':=Gr.arr {g with fils:=x} c n t s sp l sx) (by show 8<9;decide) rfl fun F' st=>kk _ ?_
 exact ⟨G,c,n,t,s,sp,l,sx,vs,h.k,st,h.r,h.c,h.n,h.t,h.s,h.l,hx.le h.k⟩
theorem KS.new (h:KS K F b0 b1 g) {o:Obj} {C:Nat->PH->Prop} (k:∀b K' F',K.le K'->K' b=some o->KS K' F' b0 b1 g->C b F'):∀b,F b=none->atF (F.set b o) (C b):=by
 obtain ⟨G,c,n,t,s,sp,l,f,vs,h⟩:=h
 exact h.st.newG fun b G' F' l1 q _ st=>k b G' F' (aa h.k l1) q ⟨G',c,n,t,s,sp,l,f,vs,le_refl' _,st,h.r.le l1,h.c.le l1,h.n.le l1,h.t.le l1,h.s.le l1,h.l.le l1,h.f.le l1⟩
theorem KS.run (h:KS K F b0 b1 g) {fn:FuncId} {args:Array Value} {P:Value->PH->Prop} {Q:Value->PH->Prop} (sp:∀G,K.le G->ae prog fn args G fun r G'=>P r G'/\G.le G') (k:∀r K' F',P r K'->K.le K'->KS K' F' b0 b1 g->Q r F'):ae prog fn args F Q:=by
 obtain ⟨G,c,n,t,s,sl,l,f,vs,h⟩:=h
 exact h.st.run (sp G h.k) fun r G' F' hp l1 st=>k r G' F' hp (aa h.k l1) ⟨G',c,n,t,s,sl,l,f,vs,le_refl' _,st,h.r.le l1,h.c.le l1,h.n.le l1,h.t.le l1,h.s.le l1,h.l.le l1,h.f.le l1⟩
theorem KS.le (h:KS K F b0 b1 g):K.le F:=by
 obtain ⟨G,c,n,t,s,sp,l,f,vs,h⟩:=h
 exact aa h.k h.st.le
theorem KS.rule0 (h:KS K F b0 b1 g) (hl:g.prods.length<=1000) {nm:ByteArray} {left:Int} {C:PH->Prop} (k:∀F',KS K F' b0 b1 {g with prods:=g.prods++[ba nm left []]}->C F'):
  ∃sp:Sl,F.cell (Addr.mk b1 5 none)=some (Sl.v sp)/\∀b,F b=none->atF (F.set b (.cells #[] 69)) fun F=>
   ae prog 39 #[.string nm,vi left,Sl.v (Sl.mk (some (Addr.mk b 0 none)) 0 0)] F fun v F=>∃w:Array Value,v=.agg w/\F.cell (Addr.mk b1 5 none)=some (Sl.v sp)/\w.size=13/\∀b,F b=none->atF (F.set b (.cells w 67)) fun F=>
   aE prog (Builtin.append_ #[35,35] 35 #[Sl.v sp,Sl.v (Sl.mk (some (Addr.mk b 0 none)) 1 1)]) F fun v F=>∃s':Sl,v=Sl.v s'/\sto F (Addr.mk b1 5 none) (Sl.v s') C:=by
 obtain ⟨G,c,n,t,s,sp,l,f,vs,h⟩:=h
 refine ⟨sp,h.st.ld0 rfl,?_⟩
 refine h.st.newG fun b G9 F9 l9 q _ st=> ?_
 exact (h.up l9 st).add ⟨[],.nil,RdS.new q (by kernel_rfl) rfl (Nat.le_refl _)⟩ hl k
theorem KS.rule1 (h:KS K F b0 b1 g) {f1:FuncId} {i1:Int} {x1:Sy} (s1:iU f1 i1 x1) (hl:g.prods.length<=1000) {nm:ByteArray} {left:Int} {C:PH->Prop} (k:∀F',KS K F' b0 b1 {g with prods:=g.prods++[ba nm left [x1]]}->C F'):
  ∃sp:Sl,F.cell (Addr.mk b1 5 none)=some (Sl.v sp)/\ae prog f1 #[vi i1] F fun v F=>∃v1:Array Value,v=.agg v1/\F.cell (Addr.mk b1 5 none)=some (Sl.v sp)/\v1.size=2/\∀b,F b=none->atF (F.set b (.cells v1 69)) fun F=>
   ae prog 39 #[.string nm,vi left,Sl.v (Sl.mk (some (Addr.mk b 0 none)) 1 1)] F fun v F=>∃w:Array Value,v=.agg w/\F.cell (Addr.mk b1 5 none)=some (Sl.v sp)/\w.size=13/\∀b,F b=none->atF (F.set b (.cells w 67)) fun F=>
   aE prog (Builtin.append_ #[35,35] 35 #[Sl.v sp,Sl.v (Sl.mk (some (Addr.mk b 0 none)) 1 1)]) F fun v F=>∃s':Sl,v=Sl.v s'/\sto F (Addr.mk b1 5 none) (Sl.v s') C:=by
 obtain ⟨G,c,n,t,s,sp,l,f,vs,h⟩:=h
 refine ⟨sp,h.st.ld0 rfl,?_⟩
 refine h.st.runv (s1 _) fun G1 F1 l1 st=> ?_
 refine ⟨_,rfl,st.ld0 rfl,rfl,?_⟩
 refine st.newG fun b G9 F9 l9 q _ st=> ?_
 exact (h.up (aa l1 l9) st).add ⟨[x1.arr],(.cons rfl .nil),RdS.new q (by kernel_rfl) rfl (Nat.le_refl _)⟩ hl k
theorem KS.rule2 (h:KS K F b0 b1 g) {f1 f2:FuncId} {i1 i2:Int} {x1 x2:Sy} (s1:iU f1 i1 x1) (s2:iU f2 i2 x2) (hl:g.prods.length<=1000) {nm:ByteArray} {left:Int} {C:PH->Prop} (k:∀F',KS K F' b0 b1 {g with prods:=g.prods++[ba nm left [x1,x2]]}->C F'):
  ∃sp:Sl,F.cell (Addr.mk b1 5 none)=some (Sl.v sp)/\ae prog f1 #[vi i1] F fun v F=>∃v1:Array Value,v=.agg v1/\F.cell (Addr.mk b1 5 none)=some (Sl.v sp)/\ae prog f2 #[vi i2] F fun v F=>∃v2:Array Value,v=.agg v2/\F.cell (Addr.mk b1 5 none)=some (Sl.v sp)/\v1.size=2/\v2.size=2/\∀b,F b=none->atF (F.set b (.cells (wr (wr (#[.bool false,.int .i64 0,.bool false,.int .i64 0]:Array Value) 0 v1.toList) 2 v2.toList) 69)) fun F=>
   ae prog 39 #[.string nm,vi left,Sl.v (Sl.mk (some (Addr.mk b 0 none)) 2 2)] F fun v F=>∃w:Array Value,v=.agg w/\F.cell (Addr.mk b1 5 none)=some (Sl.v sp)/\w.size=13/\∀b,F b=none->atF (F.set b (.cells w 67)) fun F=>
   aE prog (Builtin.append_ #[35,35] 35 #[Sl.v sp,Sl.v (Sl.mk (some (Addr.mk b 0 none)) 1 1)]) F fun v F=>∃s':Sl,v=Sl.v s'/\sto F (Addr.mk b1 5 none) (Sl.v s') C:=by
 obtain ⟨G,c,n,t,s,sp,l,f,vs,h⟩:=h
 refine ⟨sp,h.st.ld0 rfl,?_⟩
 refine h.st.runv (s1 _) fun G1 F1 l1 st=> ?_
 refine ⟨_,rfl,st.ld0 rfl,?_⟩
 refine st.runv (s2 _) fun G2 F2 l2 st=> ?_
 refine ⟨_,rfl,st.ld0 rfl,rfl,rfl,?_⟩
 refine st.newG fun b G9 F9 l9 q _ st=> ?_
 exact (h.up (aa l1 (aa l2 l9)) st).add ⟨[x1.arr,x2.arr],(.cons rfl (.cons rfl .nil)),RdS.new q (by kernel_rfl) rfl (Nat.le_refl _)⟩ hl k
theorem KS.rule3 (h:KS K F b0 b1 g) {f1 f2 f3:FuncId} {i1 i2 i3:Int} {x1 x2 x3:Sy} (s1:iU f1 i1 x1) (s2:iU f2 i2 x2) (s3:iU f3 i3 x3) (hl:g.prods.length<=1000) {nm:ByteArray} {left:Int} {C:PH->Prop} (k:∀F',KS K F' b0 b1 {g with prods:=g.prods++[ba nm left [x1,x2,x3]]}->C F'):
  ∃sp:Sl,F.cell (Addr.mk b1 5 none)=some (Sl.v sp)/\ae prog f1 #[vi i1] F fun v F=>∃v1:Array Value,v=.agg v1/\F.cell (Addr.mk b1 5 none)=some (Sl.v sp)/\ae prog f2 #[vi i2] F fun v F=>∃v2:Array Value,v=.agg v2/\F.cell (Addr.mk b1 5 none)=some (Sl.v sp)/\ae prog f3 #[vi i3] F fun v F=>∃v3:Array Value,v=.agg v3/\F.cell (Addr.mk b1 5 none)=some (Sl.v sp)/\v1.size=2/\v2.size=2/\v3.size=2/\∀b,F b=none->atF (F.set b (.cells (wr (wr (wr (#[.bool false,.int .i64 0,.bool false,.int .i64 0,.bool false,.int .i64 0]:Array Value) 0 v1.toList) 2 v2.toList) 4 v3.toList) 69)) fun F=>
   ae prog 39 #[.string nm,vi left,Sl.v (Sl.mk (some (Addr.mk b 0 none)) 3 3)] F fun v F=>∃w:Array Value,v=.agg w/\F.cell (Addr.mk b1 5 none)=some (Sl.v sp)/\w.size=13/\∀b,F b=none->atF (F.set b (.cells w 67)) fun F=>
   aE prog (Builtin.append_ #[35,35] 35 #[Sl.v sp,Sl.v (Sl.mk (some (Addr.mk b 0 none)) 1 1)]) F fun v F=>∃s':Sl,v=Sl.v s'/\sto F (Addr.mk b1 5 none) (Sl.v s') C:=by
 obtain ⟨G,c,n,t,s,sp,l,f,vs,h⟩:=h
 refine ⟨sp,h.st.ld0 rfl,?_⟩
 refine h.st.runv (s1 _) fun G1 F1 l1 st=> ?_
 refine ⟨_,rfl,st.ld0 rfl,?_⟩
 refine st.runv (s2 _) fun G2 F2 l2 st=> ?_
 refine ⟨_,rfl,st.ld0 rfl,?_⟩
 refine st.runv (s3 _) fun G3 F3 l3 st=> ?_
 refine ⟨_,rfl,st.ld0 rfl,rfl,rfl,rfl,?_⟩
 refine st.newG fun b G9 F9 l9 q _ st=> ?_
 exact (h.up (aa l1 (aa l2 (aa l3 l9))) st).add ⟨[x1.arr,x2.arr,x3.arr],(.cons rfl (.cons rfl (.cons rfl .nil))),RdS.new q (by kernel_rfl) rfl (Nat.le_refl _)⟩ hl k
theorem KS.rule4 (h:KS K F b0 b1 g) {f1 f2 f3 f4:FuncId} {i1 i2 i3 i4:Int} {x1 x2 x3 x4:Sy} (s1:iU f1 i1 x1) (s2:iU f2 i2 x2) (s3:iU f3 i3 x3) (s4:iU f4 i4 x4) (hl:g.prods.length<=1000) {nm:ByteArray} {left:Int} {C:PH->Prop} (k:∀F',KS K F' b0 b1 {g with prods:=g.prods++[ba nm left [x1,x2,x3,x4]]}->C F'):
  ∃sp:Sl,F.cell (Addr.mk b1 5 none)=some (Sl.v sp)/\ae prog f1 #[vi i1] F fun v F=>∃v1:Array Value,v=.agg v1/\F.cell (Addr.mk b1 5 none)=some (Sl.v sp)/\ae prog f2 #[vi i2] F fun v F=>∃v2:Array Value,v=.agg v2/\F.cell (Addr.mk b1 5 none)=some (Sl.v sp)/\ae prog f3 #[vi i3] F fun v F=>∃v3:Array Value,v=.agg v3/\F.cell (Addr.mk b1 5 none)=some (Sl.v sp)/\ae prog f4 #[vi i4] F fun v F=>∃v4:Array Value,v=.agg v4/\F.cell (Addr.mk b1 5 none)=some (Sl.v sp)/\v1.size=2/\v2.size=2/\v3.size=2/\v4.size=2/\∀b,F b=none->atF (F.set b (.cells (wr (wr (wr (wr (#[.bool false,.int .i64 0,.bool false,.int .i64 0,.bool false,.int .i64 0,.bool false,.int .i64 0]:Array Value) 0 v1.toList) 2 v2.toList) 4 v3.toList) 6 v4.toList) 69)) fun F=>
   ae prog 39 #[.string nm,vi left,Sl.v (Sl.mk (some (Addr.mk b 0 none)) 4 4)] F fun v F=>∃w:Array Value,v=.agg w/\F.cell (Addr.mk b1 5 none)=some (Sl.v sp)/\w.size=13/\∀b,F b=none->atF (F.set b (.cells w 67)) fun F=>
   aE prog (Builtin.append_ #[35,35] 35 #[Sl.v sp,Sl.v (Sl.mk (some (Addr.mk b 0 none)) 1 1)]) F fun v F=>∃s':Sl,v=Sl.v s'/\sto F (Addr.mk b1 5 none) (Sl.v s') C:=by
 obtain ⟨G,c,n,t,s,sp,l,f,vs,h⟩:=h
 refine ⟨sp,h.st.ld0 rfl,?_⟩
 refine h.st.runv (s1 _) fun G1 F1 l1 st=> ?_
 refine ⟨_,rfl,st.ld0 rfl,?_⟩
 refine st.runv (s2 _) fun G2 F2 l2 st=> ?_
 refine ⟨_,rfl,st.ld0 rfl,?_⟩
 refine st.runv (s3 _) fun G3 F3 l3 st=> ?_
 refine ⟨_,rfl,st.ld0 rfl,?_⟩
 refine st.runv (s4 _) fun G4 F4 l4 st=> ?_
 refine ⟨_,rfl,st.ld0 rfl,rfl,rfl,rfl,rfl,?_⟩
 refine st.newG fun b G9 F9 l9 q _ st=> ?_
 exact (h.up (aa l1 (aa l2 (aa l3 (aa l4 l9)))) st).add ⟨[x1.arr,x2.arr,x3.arr,x4.arr],(.cons rfl (.cons rfl (.cons rfl (.cons rfl .nil)))),RdS.new q (by kernel_rfl) rfl (Nat.le_refl _)⟩ hl k
theorem KS.rule5 (h:KS K F b0 b1 g) {f1 f2 f3 f4 f5:FuncId} {i1 i2 i3 i4 i5:Int} {x1 x2 x3 x4 x5:Sy} (s1:iU f1 i1 x1) (s2:iU f2 i2 x2) (s3:iU f3 i3 x3) (s4:iU f4 i4 x4) (s5:iU f5 i5 x5) (hl:g.prods.length<=1000) {nm:ByteArray} {left:Int} {C:PH->Prop} (k:∀F',KS K F' b0 b1 {g with prods:=g.prods++[ba nm left [x1,x2,x3,x4,x5]]}->C F'):
  ∃sp:Sl,F.cell (Addr.mk b1 5 none)=some (Sl.v sp)/\ae prog f1 #[vi i1] F fun v F=>∃v1:Array Value,v=.agg v1/\F.cell (Addr.mk b1 5 none)=some (Sl.v sp)/\ae prog f2 #[vi i2] F fun v F=>∃v2:Array Value,v=.agg v2/\F.cell (Addr.mk b1 5 none)=some (Sl.v sp)/\ae prog f3 #[vi i3] F fun v F=>∃v3:Array Value,v=.agg v3/\F.cell (Addr.mk b1 5 none)=some (Sl.v sp)/\ae prog f4 #[vi i4] F fun v F=>∃v4:Array Value,v=.agg v4/\F.cell (Addr.mk b1 5 none)=some (Sl.v sp)/\ae prog f5 #[vi i5] F fun v F=>∃v5:Array Value,v=.agg v5/\F.cell (Addr.mk b1 5 none)=some (Sl.v sp)/\v1.size=2/\v2.size=2/\v3.size=2/\v4.size=2/\v5.size=2/\∀b,F b=none->atF (F.set b (.cells (wr (wr (wr (wr (wr (#[.bool false,.int .i64 0,.bool false,.int .i64 0,.bool false,.int .i64 0,.bool false,.int .i64 0,.bool false,.int .i64 0]:Array Value) 0 v1.toList) 2 v2.toList) 4 v3.toList) 6 v4.toList) 8 v5.toList) 69)) fun F=>
   ae prog 39 #[.string nm,vi left,Sl.v (Sl.mk (some (Addr.mk b 0 none)) 5 5)] F fun v F=>∃w:Array Value,v=.agg w/\F.cell (Addr.mk b1 5 none)=some (Sl.v sp)/\w.size=13/\∀b,F b=none->atF (F.set b (.cells w 67)) fun F=>
   aE prog (Builtin.append_ #[35,35] 35 #[Sl.v sp,Sl.v (Sl.mk (some (Addr.mk b 0 none)) 1 1)]) F fun v F=>∃s':Sl,v=Sl.v s'/\sto F (Addr.mk b1 5 none) (Sl.v s') C:=by
 obtain ⟨G,c,n,t,s,sp,l,f,vs,h⟩:=h
 refine ⟨sp,h.st.ld0 rfl,?_⟩
 refine h.st.runv (s1 _) fun G1 F1 l1 st=> ?_
 refine ⟨_,rfl,st.ld0 rfl,?_⟩
 refine st.runv (s2 _) fun G2 F2 l2 st=> ?_
 refine ⟨_,rfl,st.ld0 rfl,?_⟩
 refine st.runv (s3 _) fun G3 F3 l3 st=> ?_
 refine ⟨_,rfl,st.ld0 rfl,?_⟩
 refine st.runv (s4 _) fun G4 F4 l4 st=> ?_
 refine ⟨_,rfl,st.ld0 rfl,?_⟩
 refine st.runv (s5 _) fun G5 F5 l5 st=> ?_
 refine ⟨_,rfl,st.ld0 rfl,rfl,rfl,rfl,rfl,rfl,?_⟩
 refine st.newG fun b G9 F9 l9 q _ st=> ?_
 exact (h.up (aa l1 (aa l2 (aa l3 (aa l4 (aa l5 l9))))) st).add ⟨[x1.arr,x2.arr,x3.arr,x4.arr,x5.arr],(.cons rfl (.cons rfl (.cons rfl (.cons rfl (.cons rfl .nil))))),RdS.new q (by kernel_rfl) rfl (Nat.le_refl _)⟩ hl k
end
theorem St.imp {G F:PH} {As:List (PH->Prop)} (h:St G F As) (i:Nat) {A A':PH->Prop} (hi:As[i]? =some A) (f:∀H,H.le F->A H->A' H):St G F (As.set i A'):=by
 obtain ⟨H,a1,a2,a3,a4⟩:=h.set (A':=A') hi
 exact a4 H F (f H a3 a1) (fun b hb=> .inl hb) a3 fun b o hb _=>hb
def ut:List ByteArray:=[⟨#[43]⟩,⟨#[42]⟩,⟨#[40]⟩,⟨#[41]⟩,⟨#[105,102]⟩,⟨#[101,108,115,101]⟩,⟨#[59]⟩,⟨#[94]⟩]
def kK:Tk:=⟨⟨#[105,100]⟩,0,⟨#[]⟩,[⟨1,97,122,0,0⟩,⟨1,97,122,0,0⟩,⟨4,0,0,1,0⟩,⟨2,0,0,0,2⟩],⟨#[120]⟩,aJ⟩
def tkL (x:ByteArray):Tk:=⟨x,0,x,[],⟨#[]⟩,aJ⟩
def jq:Tk:=⟨⟨#[115,112,97,99,101]⟩,1,⟨#[]⟩,[⟨1,9,10,0,0⟩,⟨1,32,32,0,0⟩,⟨3,0,0,0,1⟩,⟨1,9,10,0,0⟩,⟨1,32,32,0,0⟩,⟨3,0,0,3,4⟩,⟨4,0,0,5,0⟩,⟨2,0,0,2,6⟩],⟨#[]⟩,aJ⟩
def gx:Tk:=⟨⟨#[114,101,109,97,114,107]⟩,2,⟨#[]⟩,[⟨1,37,37,0,0⟩,⟨1,97,122,0,0⟩,⟨1,32,32,0,0⟩,⟨3,0,0,1,2⟩,⟨4,0,0,3,0⟩,⟨2,0,0,0,4⟩],⟨#[]⟩,aJ⟩
def eF:List Tk:=kK::ut.map tkL++[jq,gx]
theorem gU {F:PH} {x:Tk} {p n:Sl} (hp:RL F p x.pat) (hn:RL F n x.cond.1):Mem.rep F x (x.arr p n):=⟨p,n,rfl,hp,hn⟩
theorem mM (F:PH):ae prog 113 #[] F fun r F'=>(∃s,r=Sl.v s/\RL F' s eF)/\F.le F':=by
 obtain ⟨_,_,T⟩:=Fl
 refine Sw ?_
 unfold LJ
 refine (St.start F).run (gu _) fun _ G1 F1 hr l1 h=> ?_
 obtain ⟨w,rfl,hw⟩:=hr
 obtain ⟨n,rfl,hn⟩:=hw.out
 refine ⟨_,rfl,?_⟩
 refine h.new fun b1 F2 h=> ?_
 refine h.put0 (w':= #[n.v,vi aJ.2]) rfl rfl (by simp [ai,Sl.v]) fun F3 h=> ?_
 refine ⟨_,rfl,h.whole0,rfl,rfl,?_⟩
 refine h.new fun b10 F4 h=> ?_
 refine h.runv (dr 97 122 _) fun G2 F5 l2 h=> ?_
 refine ⟨_,rfl,?_⟩
 refine h.runv (dr 97 122 _) fun G3 F6 l3 h=> ?_
 refine ⟨_,rfl,?_⟩
 refine h.runv (bQ 4 1 0 _) fun G4 F7 l4 h=> ?_
 refine ⟨_,rfl,?_⟩
 refine h.runv (bQ 2 0 2 _) fun G5 F8 l5 h=> ?_
 refine ⟨_,rfl,rfl,rfl,rfl,rfl,?_⟩
 refine h.newG fun b16 G6 F9 l6 q16 _ h=> ?_
 have l16:G1.le G6:=aa l2 (aa l3 (aa l4 (aa l5 l6)))
 have h:=h.imp (A':=own (Sl.mk (some (Addr.mk b10 0 none)) 1 1) 79 7 (cat [Tk.arr ⟨⟨#[105,100]⟩,0,⟨#[]⟩,[],⟨#[120]⟩,aJ⟩ Sl.nil n])) 0 rfl fun H _ hH=> .inr ⟨b10,_,rfl,hH,rfl,Nat.le_refl _,rfl,rfl⟩
 refine h.el1 0 rfl (by simp) (c:=Tk.arr ⟨⟨#[105,100]⟩,0,⟨#[]⟩,[],⟨#[120]⟩,aJ⟩ Sl.nil n) (k:=0) rfl (by decide) (by decide) fun F10 h=> ?_
 refine h.newG fun b19 G7 F11 l7 q19 _ h=> ?_
 have lt:=aa l16 l7
 have r0:bZ G7 [kK] [kK.arr (Sl.mk (some (Addr.mk b16 0 none)) 4 4) n]:=.cons (gU ⟨[_,_,_,_],.cons rfl (.cons rfl (.cons rfl (.cons rfl .nil))),RdS.new (l7 _ _ q16) rfl rfl (Nat.le_refl _)⟩ (hn.le lt)) .nil
 replace h:St G7 F11 [own (Sl.mk (some (Addr.mk b10 0 none)) 1 1) 79 7 (cat [kK.arr (Sl.mk (some (Addr.mk b16 0 none)) 4 4) n]),pt b1 (.cells #[n.v,vi aJ.2] 33)]:=h
 have hl:RL G7 (Sl.mk (some (Addr.mk b19 0 none)) 8 8) ut:=RL.strs.2 (RdS.new q19 rfl rfl (Nat.le_refl _))
 have lF:F.le G7:=aa l1 lt
 refine ⟨fun m out i F'=>∃k:Nat,k<=8/\i=k/\m=8 - k/\out.len=k+1/\∃G vs,G7.le G/\bZ G (kK::(ut.take k).map tkL) vs/\St G F' [own out 79 7 (cat vs),pt b1 (.cells #[n.v,vi aJ.2] 33)],8,⟨0,by decide,rfl,rfl,rfl,G7,_,le_refl' _,r0,h⟩,?_⟩
 rintro m out i F' ⟨k,hk,rfl,rfl,hlen,G,vs,lG,hr,h⟩
 unfold BI
 refine ⟨fun hi=> ?_,fun hi=> ?_⟩
 ·have hk8:k<8:=by have:(k:Int)<8:=hi;omega
  have hx:ut[k]? =some (ut[k]'hk8):=List.getElem?_eq_getElem hk8
  generalize ut[k]=x at hx
  obtain ⟨a,c,ha,hrow,hc⟩:=hl.get (by decide) hx
  cases hc
  cases ha
  have hcell:∀{F':PH},G7.le F'->F'.cell (Addr.add (Addr.mk b19 0 none) (Int.toNat (k:Int)*1))=some (.string x):=fun hF=>aF (kf hF hrow) rfl
  refine ⟨_,rfl,by omega,hi,x,hcell (aa lG h.le),_,rfl,by omega,hi,x,hcell (aa lG h.le),_,rfl,h.whole1,rfl,rfl,?_⟩
  refine h.push0 T (c:=(tkL x).arr Sl.nil n) rfl (by simp [ai,Sl.v]) (by omega) fun s' G' F2 l' h hl'=> ?_
  refine ⟨h.whole1,hcell (aa lG (aa l' h.le)),hcell (aa lG (aa l' h.le)),8 - (k+1),by omega,k+1,by omega,?_,rfl,by omega,G',vs++[(tkL x).arr Sl.nil n],aa lG l',?_,?_⟩
  ·exact aB (n:=8) hk8 (by decide)
  ·have e:ut.take (k+1)=ut.take k++[x]:=by rw [List.take_add_one,hx];rfl
   rw [e,List.map_append,<- List.cons_append]
   exact (hr.le l').append (.cons (gU (.nil _) (hn.le (aa lt (aa lG l')))) .nil)
  ·rw [bq,bG]
   exact h
 ·have hk8:k=8:=by have:¬(k:Int)<8:=hi;omega
  subst hk8
  unfold BH
  have r9:=hr
  refine h.runv (dr 9 10 _) fun H1 F1 m1 h=> ?_
  refine ⟨_,rfl,?_⟩
  refine h.runv (dr 32 32 _) fun H2 F1 m2 h=> ?_
  refine ⟨_,rfl,?_⟩
  refine h.runv (bQ 3 0 1 _) fun H3 F1 m3 h=> ?_
  refine ⟨_,rfl,?_⟩
  refine h.runv (dr 9 10 _) fun H4 F1 m4 h=> ?_
  refine ⟨_,rfl,?_⟩
  refine h.runv (dr 32 32 _) fun H5 F1 m5 h=> ?_
  refine ⟨_,rfl,?_⟩
  refine h.runv (bQ 3 3 4 _) fun H6 F1 m6 h=> ?_
  refine ⟨_,rfl,?_⟩
  refine h.runv (bQ 4 5 0 _) fun H7 F1 m7 h=> ?_
  refine ⟨_,rfl,?_⟩
  refine h.runv (bQ 2 2 6 _) fun H8 F1 m8 h=> ?_
  refine ⟨_,rfl,rfl,rfl,rfl,rfl,rfl,rfl,rfl,rfl,?_⟩
  refine h.newG fun b47 H9 F1 m9 q47 _ h=> ?_
  refine h.runv (dr 37 37 _) fun I1 F1 n1 h=> ?_
  refine ⟨_,rfl,?_⟩
  refine h.runv (dr 97 122 _) fun I2 F1 n2 h=> ?_
  refine ⟨_,rfl,?_⟩
  refine h.runv (dr 32 32 _) fun I3 F1 n3 h=> ?_
  refine ⟨_,rfl,?_⟩
  refine h.runv (bQ 3 1 2 _) fun I4 F1 n4 h=> ?_
  refine ⟨_,rfl,?_⟩
  refine h.runv (bQ 4 3 0 _) fun I5 F1 n5 h=> ?_
  refine ⟨_,rfl,?_⟩
  refine h.runv (bQ 2 0 4 _) fun I6 F1 n6 h=> ?_
  refine ⟨_,rfl,rfl,rfl,rfl,rfl,rfl,rfl,?_⟩
  refine h.newG fun b54 I7 F1 n7 q54 _ h=> ?_
  refine ⟨_,rfl,h.whole1,rfl,rfl,?_⟩
  refine h.push0 T (c:=jq.arr (Sl.mk (some (Addr.mk b47 0 none)) 8 8) n) rfl (by simp [ai,Sl.v]) (by omega) fun s1 I8 F1 n8 h hl1=> ?_
  refine ⟨_,rfl,h.whole1,rfl,rfl,?_⟩
  refine h.push0 T (c:=gx.arr (Sl.mk (some (Addr.mk b54 0 none)) 6 6) n) rfl (by simp [ai,Sl.v]) (by omega) fun s2 I9 F1 n9 h hl2=> ?_
  obtain ⟨ho,-⟩:=h.ownAt (i:=0) rfl
  have i89:=aa n8 n9
  have i79:=aa n7 i89
  have iH:H9.le I9:=aa n1 (aa n2 (aa n3 (aa n4 (aa n5 (aa n6 i79)))))
  have iG:G.le I9:=aa m1 (aa m2 (aa m3 (aa m4 (aa m5 (aa m6 (aa m7 (aa m8 (aa m9 iH))))))))
  have hn9:=hn.le (aa lt (aa lG iG))
  refine ⟨⟨s2,rfl,vs++[jq.arr (Sl.mk (some (Addr.mk b47 0 none)) 8 8) n]++[gx.arr (Sl.mk (some (Addr.mk b54 0 none)) 6 6) n],?_,?_⟩,aa lF (aa lG (aa iG h.le))⟩
  ·have e:eF=(kK::(ut.take 8).map tkL)++[jq]++[gx]:=rfl
   rw [e]
   have p1:RL I9 (Sl.mk (some (Addr.mk b47 0 none)) 8 8) jq.pat:=RL.nds.2 (RdS.new (iH _ _ q47) rfl rfl (Nat.le_refl _))
   have p2:RL I9 (Sl.mk (some (Addr.mk b54 0 none)) 6 6) gx.pat:=RL.nds.2 (RdS.new (i89 _ _ q54) rfl rfl (Nat.le_refl _))
   exact (((hr.le iG).append (.cons (gU p1 hn9) .nil)).append (.cons (gU p2 hn9) .nil)).le h.le
  ·rw [bq,bq,bG,bG]
   exact ho.rd
end Go.Proofs.YtenpmjhnhepfdaaGreatDoor

/-
  The reference's tests of grammars: tokens, productions.
-/
import Derived.Test.YtenpmjhnhepfdaaGreatDoorTc
import Derived.Test.YtenpmjhnhepfdaaGreatDoorIo
namespace Go.Proofs.YtenpmjhnhepfdaaGreatDoor
open Go Go.Proofs.Tryz
set_option maxRecDepth 10000
def fI (w:Δ) (lo hi:Nat) (fr:Δ):Δ:=(fr.filter λf=>decide (f<w.length/\lo<=w.getD f 0/\w.getD f 0<=hi)).map (· +1)
theorem AE (w:Δ) (lo hi:Nat) (fr:Δ) (f:Nat):fI w lo hi (fr++[f])=if f<w.length/\lo<=w.getD f 0/\w.getD f 0<=hi then fI w lo hi fr++[f+1] else fI w lo hi fr:=by
 unfold fI;rw [List.filter_append,XP,List.filter_cons];split
 ·rename_i h;rw [if_pos (by simpa using h)];rfl
 ·rename_i h;rw [if_neg (by simpa using h)];simp
theorem yo {w:Δ} {lo hi:Nat} {fr:Δ} (h:fr.Nodup):(fI w lo hi fr).Nodup:=by unfold fI;refine List.Pairwise.map (R:=(·≠·)) _ (λa b hab=>by omega) ?_;exact List.Pairwise.sublist List.filter_sublist h
theorem EB {w:Δ} {lo hi:Nat} {fr:Δ} (e:Nat):e∈fI w lo hi fr↔Bh (Lg (.rng lo hi)) w fr e:=by
 unfold fI;simp only [X3,Za,decide_eq_true_eq];constructor
 ·rintro ⟨f,⟨hf,h1,h2,h3⟩,rfl⟩;refine ⟨f,hf,by omega,by omega,w.getD f 0,?_,h2,h3⟩;rw [Di h1,XQ,N4 h1];rfl
 ·rintro ⟨f,hf,h1,h2,b,hb,h3,h4⟩;have hl:=iC h1 h2;rw [hb] at hl;simp at hl;obtain rfl:e=f+1:=by omega
  rw [Di (by omega)] at hb;simp at hb;refine ⟨f,⟨hf,by omega,?_⟩,rfl⟩;rw [XQ,N4 (by omega)];simp only [Option.getD_some];omega
section
variable {F:PH}
def BhR (F:PH) (v:Value) (P:Δ->Prop) (w fr:Δ):Prop:=∃o:Δ,IlV F v o/\o.Nodup/\∀e,e∈o↔Bh P w fr e
theorem IlV.le {F G:PH} {v:Value} {o:Δ} (h:IlV F v o) (hl:F.le G):IlV G v o:=by obtain ⟨s,e,h⟩:=h;exact ⟨s,e,h.le hl⟩
theorem yp {P:Δ->Prop} {w fr o:Δ} (h:∀e,e∈o↔Bh P w fr e):∀e∈o,e<=w.length:=λe he=>by obtain ⟨f,_,_,h2,_⟩:=(h e).1 he;exact h2
theorem AG {s2:Sl} {fr:Δ} {st:ByteArray} {lo hi b9 b17:Nat} {F1:PH} {x:Nd} {R:Value->Ψ} (h2:RdS F1 s2 1 (il fr)) (hfl:fr.length<=100001) (hfb:∀f∈fr,f<=st.size) (hst:st.size<=100000) (q9:F1 b9=some (.cells x.arr 97)) (hlo:x.lo=lo) (hhi:x.hi=hi) (hb17:F1 b17=none)
  (hR:∀v F',F1.le F'->IlV F' v (fI (bs st) lo hi fr)->R v F'):
  ∃(I2:Nat->Sl->Ω) (m2:Nat),I2 m2 (Sl.mk (some (Addr.mk b17 0 none)) 0 0) (0:Int) (F1.set b17 (.cells #[] 3))/\∀m2 out_10_3 k_11 F,I2 m2 out_10_3 k_11 F->
   vH (λy2_0 y2_1 F=>∃m',m'<m2/\I2 m' y2_0 y2_1 F) st s2 b9 R out_10_3 k_11 F:=by
 have hl2:=nN h2;have hwl:=aX st;refine ⟨λm o k F'=>∃j:Nat,k=j/\j<=fr.length/\m=fr.length - j/\Ov 3 F1 F' o (il (fI (bs st) lo hi (fr.take j))),fr.length,⟨0,rfl,by omega,rfl,⟨ac _ hb17,.inr ⟨b17,#[],rfl,aq _ _ _,rfl,XA _,rfl,rfl⟩,λa ha=>by cases ha;exact hb17⟩⟩,?_⟩;rintro _ o _ F6 ⟨j,rfl,hj,rfl,hO⟩;unfold vH;refine ⟨λhlt=> ?_,λhge=> ?_⟩
 ·have hjl:j<fr.length:=by omega
  have hlen:(fI (bs st) lo hi (fr.take j)).length<=100001:=by unfold fI;rw [XH];refine X1 (List.length_filter_le _ _) ?_;rw [XL];omega
  have hx:fr[j]? =some fr[j]:=N4 hjl;obtain ⟨a,ha,hc⟩:=wM (h2.le hO.le) hjl;have hfj:=hfb _ (Yv hjl);have htk:fI (bs st) lo hi (fr.take (j+1))=if fr[j]<(bs st).length/\lo<=(bs st).getD fr[j] 0/\(bs st).getD fr[j] 0<=hi then fI (bs st) lo hi (fr.take j)++[fr[j]+1] else fI (bs st) lo hi (fr.take j):=by rw [Yy,hx];exact AE _ _ _ _ _
  generalize fr[j]=f at*;have j5:∀bb:Bool,(bb=true↔f<(bs st).length/\lo<=(bs st).getD f 0/\(bs st).getD f 0<=hi)->lX (λy2_0 y2_1 F=>∃m',m'<fr.length - j/\∃j:Nat,y2_1=j/\j<=fr.length/\m'=fr.length - j/\Ov 3 F1 F y2_0 (il (fI (bs st) lo hi (fr.take j)))) st s2 b9 o j bb R F6:=λbb hbb=>by
   unfold lX;refine ⟨λht=>⟨a,ha,by omega,by omega,_,hc,?_⟩,λhf=> ?_⟩
   ·rw [if_pos (hbb.1 ht)] at htk;rw [fC (by omega)];refine hO.push (t:=70) Lh Le Lf rfl (by decide) jl (by rw [hO.len];simp [il];omega) λs' F' h'=> ?_;unfold pk;refine ⟨fr.length - (j+1),by omega,j+1,fC (by omega),by omega,rfl,?_⟩;rw [htk,I0];exact h'
   ·rw [if_neg (λh=>by rw [hbb.2 h] at hf;cases hf)] at htk;unfold pk;refine ⟨fr.length - (j+1),by omega,j+1,fC (by omega),by omega,rfl,?_⟩;rw [htk];exact hO
  have c1:F6.cell (Addr.mk b9 1 none)=some (vi lo):=by rw [an (hO.le _ _ q9),<- hlo];rfl
  have c2:F6.cell (Addr.mk b9 2 none)=some (vi hi):=by rw [an (hO.le _ _ q9),<- hhi];rfl
  refine ⟨a,ha,by omega,by omega,_,hc,λhlt2=> ?_,λhge2=>j5 false ⟨λh=>(by cases h),λh=>absurd h.1 (by omega)⟩⟩;have hfs:f<st.size:=by omega
  have hget:∀hx:Int.toNat (f:Int)<st.size,IntKind.i64.wrap ((st[Int.toNat (f:Int)]'hx).toNat:Int)=(((bs st).getD f 0:Nat):Int):=λhx=>by
   have e:(st[Int.toNat (f:Int)]'hx).toNat=(bs st).getD f 0:=by rw [<- GE];unfold cb;simp only [N5] at hx;rw [dif_pos hx];rfl
   have h256:(bs st).getD f 0<256:=by rw [XQ,N4 (by omega:f<(bs st).length)];exact L6 st _ (Yv _)
   rw [e,aH (by omega) (by omega)]
  refine ⟨a,ha,by omega,by omega,_,hc,by omega,by omega,by rw [N5];exact hfs,_,rfl,_,c1,λhle=>⟨a,ha,by omega,by omega,_,hc,by omega,by omega,by rw [N5];exact hfs,_,rfl,_,c2,j5 _ ?_⟩,λhgt=>j5 false ⟨λh=>(by cases h),λh=> ?_⟩⟩
  ·rw [hget] at hle;rw [hget,decide_eq_true_eq];omega
  ·rw [hget] at hgt;omega
 ·unfold Ch;obtain rfl:j=fr.length:=by omega
  rw [XF] at hO;exact hR _ _ hO.le ⟨_,rfl,hO.own.rd⟩
theorem AH {l:List Nd} {p:Sl} {st:ByteArray} (hst:st.size<=100000) {i:Nat} {t:Lt} {ns:Δ} (h:cz l i t ns):∀{F:PH} {s2:Sl} {fr:Δ},RdS F p 5 (cX l)->RdS F s2 1 (il fr)->fr.Nodup->(∀f∈fr,f<=st.size)->
  ae prog 239 #[p.v,vi i,.string st,s2.v] F λr F'=>BhR F' r (Lg t.pat) (bs st) fr/\F.le F':=by
 have hwl:=aX st;have few:∀{o:Δ},o.Nodup->(∀e∈o,e<=(bs st).length)->o.length<=100001:=λh1 h2=>by have:=iE h1 h2;omega
 induction h with
 | @emp i x hx hk=>intro F s2 fr hs h2 hnd hfb;have hlen:=hs.nlen;have hi:=(N6.1 hx).1;obtain ⟨a,ha,hrow⟩:=rdn hs hx;refine yb ?_;unfold uk;refine ⟨a,ha,by omega,by omega,x.arr,rfl,hrow,λb9 hb9=> ?_⟩;refine atI ?_;refine stW (aq _ _ _) rfl rfl (dY x) ?_;rw [aU];intro b17 hb17;refine atI ?_;have l9:F.le (F.set b9 (.cells x.arr 97)):=ac _ hb9;have q9:=aq F b9 (.cells x.arr 97);generalize F.set b9 (.cells x.arr 97)=F1 at*;refine ⟨x.k,by rw [an (ac _ hb17 _ _ q9)];rfl,λ_=>⟨⟨fr,⟨_,rfl,h2.le (aa l9 (ac _ hb17))⟩,hnd,λe=> ?_⟩,aa l9 (ac _ hb17)⟩,λh=>absurd hk h⟩;exact (Qb (λf hf=>by rw [hwl];exact hfb f hf) e).symm
 | @rng i lo hi x hx hk hlo hhi hle h255=>intro F s2 fr hs h2 hnd hfb;have hlen:=hs.nlen;have hi':=(N6.1 hx).1;obtain ⟨a,ha,hrow⟩:=rdn hs hx;refine yb ?_;unfold uk;refine ⟨a,ha,by omega,by omega,x.arr,rfl,hrow,λb9 hb9=> ?_⟩;refine atI ?_;refine stW (aq _ _ _) rfl rfl (dY x) ?_;rw [aU];intro b17 hb17;refine atI ?_;have l9:F.le (F.set b9 (.cells x.arr 97)):=ac _ hb9;have q9:=aq F b9 (.cells x.arr 97);generalize F.set b9 (.cells x.arr 97)=F1 at*;refine ⟨x.k,by rw [an (ac _ hb17 _ _ q9)];rfl,λh=>absurd h (by omega),λ_=>⟨λ_=> ?_,λh=>absurd hk h⟩⟩;refine AG (h2.le l9) (few hnd λf hf=>by rw [hwl];exact hfb f hf) hfb hst q9 hlo hhi hb17 λv F' hl' hv=> ?_;exact ⟨⟨_,hv,yo hnd,λe=>EB e⟩,aa l9 hl'⟩
 | @seq i a b x t u na nb hx hk hxa hxb ht hu it iu=>
  intro F s2 fr hs h2 hnd hfb;have hlen:=hs.nlen;have hi':=(N6.1 hx).1;obtain ⟨ad,had,hrow⟩:=rdn hs hx;refine yb ?_;unfold uk;refine ⟨ad,had,by omega,by omega,x.arr,rfl,hrow,λb9 hb9=> ?_⟩;refine atI ?_;refine stW (aq _ _ _) rfl rfl (dY x) ?_;rw [aU];intro b17 hb17;refine atI ?_;have q9:=ac (.cells #[] 3) hb17 _ _ (aq F b9 (.cells x.arr 97));have l9:=aa (ac (.cells x.arr 97) hb9) (ac (.cells #[] 3) hb17);generalize (F.set b9 (.cells x.arr 97)).set b17 (.cells #[] 3)=F1 at*;have c1:∀{G:PH},F1.le G->G.cell (Addr.mk b9 3 none)=some (vi a):=λh=>by rw [an (h _ _ q9),<- hxa];rfl
  have c2:∀{G:PH},F1.le G->G.cell (Addr.mk b9 4 none)=some (vi b):=λh=>by rw [an (h _ _ q9),<- hxb];rfl
  refine ⟨x.k,by rw [an q9];rfl,λh=>absurd h (by omega),λ_=>⟨λh=>absurd h (by omega),λ_=>⟨λ_=> ?_,λh=>absurd hk h⟩⟩⟩;refine ⟨_,c2 (am _),_,c1 (am _),?_⟩;refine (it (hs.le l9) (h2.le l9) hnd hfb).mono ?_;rintro _ F2 ⟨⟨o,⟨s3,rfl,h3⟩,ho,hoe⟩,l2⟩;refine ⟨s3,rfl,c2 l2,?_⟩;refine (iu (hs.le (aa l9 l2)) h3 ho λf hf=>by rw [<- hwl];exact yp hoe f hf).mono ?_;rintro _ F3 ⟨⟨o2,⟨s4,rfl,h4⟩,ho2,hoe2⟩,l3⟩;refine ⟨s4,rfl,⟨o2,⟨s4,rfl,h4⟩,ho2,λe=> ?_⟩,aa l9 (aa l2 l3)⟩;rw [hoe2 e];exact Qc hoe e
 | @alt i a b x t u na nb hx hk hxa hxb ht hu it iu=>
  intro F s2 fr hs h2 hnd hfb;have hlen:=hs.nlen;have hi':=(N6.1 hx).1;obtain ⟨ad,had,hrow⟩:=rdn hs hx;refine yb ?_;unfold uk;refine ⟨ad,had,by omega,by omega,x.arr,rfl,hrow,λb9 hb9=> ?_⟩;refine atI ?_;refine stW (aq _ _ _) rfl rfl (dY x) ?_;rw [aU];intro b17 hb17;refine atI ?_;have q9:=ac (.cells #[] 3) hb17 _ _ (aq F b9 (.cells x.arr 97));have l9:=aa (ac (.cells x.arr 97) hb9) (ac (.cells #[] 3) hb17);generalize (F.set b9 (.cells x.arr 97)).set b17 (.cells #[] 3)=F1 at*;have c1:∀{G:PH},F1.le G->G.cell (Addr.mk b9 3 none)=some (vi a):=λh=>by rw [an (h _ _ q9),<- hxa];rfl
  have c2:∀{G:PH},F1.le G->G.cell (Addr.mk b9 4 none)=some (vi b):=λh=>by rw [an (h _ _ q9),<- hxb];rfl
  refine ⟨x.k,by rw [an q9];rfl,λh=>absurd h (by omega),λ_=>⟨λh=>absurd h (by omega),λ_=>⟨λh=>absurd h (by omega),λ_=>⟨λ_=> ?_,λh=>absurd hk h⟩⟩⟩⟩;refine ⟨_,c1 (am _),_,c2 (am _),?_⟩;refine (it (hs.le l9) (h2.le l9) hnd hfb).mono ?_;rintro _ F2 ⟨⟨o,⟨s3,rfl,h3⟩,ho,hoe⟩,l2⟩;refine ⟨s3,rfl,c2 l2,?_⟩;refine (iu (hs.le (aa l9 l2)) (h2.le (aa l9 l2)) hnd hfb).mono ?_;rintro _ F3 ⟨⟨o2,⟨s4,rfl,h4⟩,ho2,hoe2⟩,l3⟩;refine ⟨s4,rfl,?_⟩;have n1:=few ho (yp hoe);have n2:=few ho2 (yp hoe2);refine (mP (h3.le l3) h4 (by omega) (by omega)).mono ?_;rintro _ F4 ⟨⟨s5,rfl,h5⟩,l4⟩;refine ⟨s5,rfl,⟨_,⟨s5,rfl,h5⟩,nL _ _ ho,λe=> ?_⟩,aa l9 (aa l2 (aa l3 l4))⟩;rw [iD,hoe,hoe2];exact (Qd e).symm
 | @rep i a x t na hx hk hxa ht it=>
  intro F s2 fr hs h2 hnd hfb;have hlen:=hs.nlen;have hi':=(N6.1 hx).1;obtain ⟨ad,had,hrow⟩:=rdn hs hx;refine yb ?_;unfold uk;refine ⟨ad,had,by omega,by omega,x.arr,rfl,hrow,λb9 hb9=> ?_⟩;refine atI ?_;refine stW (aq _ _ _) rfl rfl (dY x) ?_;rw [aU];intro b17 hb17;refine atI ?_;have q9:=ac (.cells #[] 3) hb17 _ _ (aq F b9 (.cells x.arr 97));have l9:=aa (ac (.cells x.arr 97) hb9) (ac (.cells #[] 3) hb17);generalize (F.set b9 (.cells x.arr 97)).set b17 (.cells #[] 3)=F1 at*;have c1:∀{G:PH},F1.le G->G.cell (Addr.mk b9 3 none)=some (vi a):=λh=>by rw [an (h _ _ q9),<- hxa];rfl
  refine ⟨x.k,by rw [an q9];rfl,λh=>absurd h (by omega),λ_=>⟨λh=>absurd h (by omega),λ_=>⟨λh=>absurd h (by omega),λ_=>⟨λh=>absurd h (by omega),λ_=> ?_⟩⟩⟩⟩;unfold Cg
  refine ⟨λm os n F'=>∃(o:Δ) (k:Nat),n=(k:Int) - 1/\k<=o.length+1/\m=st.size+3 - k/\F1.le F'/\RdS F' os 1 (il o)/\o.Nodup/\(∀f∈fr,f∈o)/\(∀e∈o,Bh (Lg (.rep t.pat)) (bs st) fr e)/\(k=o.length+1->∀e,Bh (Lg t.pat) (bs st) o e->e∈o),st.size+3,
   ⟨fr,0,by omega,by omega,by omega,am _,h2.le l9,hnd,λ_ h=>h,λe he=>⟨e,he,XA _,by rw [hwl];exact hfb e he,by rw [yv];exact .nil⟩,λh=>by omega⟩,?_⟩
  rintro _ os _ F2 ⟨o,k,rfl,hk',rfl,l2,h3,ho,hfo,hoe,hcl⟩;unfold Ce;have hos:=nN h3;have hob:∀e∈o,e<=(bs st).length:=λe he=>by obtain ⟨f,_,_,g,_⟩:=hoe e he;exact g
  have hfew:=iE ho hob;refine ⟨λhlt=> ?_,λhge=> ?_⟩
  ·refine ⟨_,c1 l2,?_⟩;refine (it (hs.le (aa l9 l2)) h3 ho λf hf=>by rw [<- hwl];exact hob f hf).mono ?_;rintro _ F3 ⟨⟨o2,⟨s4,rfl,h4⟩,ho2,hoe2⟩,l3⟩;refine ⟨s4,rfl,?_⟩;have n2:=few ho2 (yp hoe2);refine (mP (h3.le l3) h4 (by omega) (by omega)).mono ?_;rintro _ F4 ⟨⟨s5,rfl,h5⟩,l4⟩;obtain ⟨kk,hkk⟩:=wL o2 o;refine ⟨s5,rfl,st.size+3 - (o.length+1),by omega,tog o o2,o.length+1,by omega,by rw [hkk,N3];omega,rfl,aa l2 (aa l3 l4),h5,nL _ _ ho,λf hf=>(iD f o2 o).2 (.inl (hfo f hf)),λe he=> ?_,λhfull e he=> ?_⟩
   ·rcases (iD e o2 o).1 he with h|h
    ·exact hoe e h
    ·exact Lj hoe ((hoe2 e).1 h)
   ·have hall:=IZ (o:=o) (ms:=o2) (by omega);refine (iD e o2 o).2 (.inr ((hoe2 e).2 ?_));obtain ⟨f,hf,g⟩:=he;refine ⟨f,?_,g⟩;rcases (iD f o2 o).1 hf with h|h
    ·exact h
    ·exact hall f h
  ·unfold Cd;exact ⟨⟨o,⟨os,rfl,h3⟩,ho,Qe hfo hoe (hcl (by omega))⟩,aa l9 l2⟩
theorem IN {P:Δ->Prop} {w:Δ}:Bh P w [0] w.length↔P w:=by
 constructor
 ·rintro ⟨f,hf,_,_,h⟩;simp at hf;subst hf;simpa [slc] using h
 ·intro h;exact ⟨0,by simp,by omega,XA _,by simpa [slc] using h⟩
theorem oD {s:Sl} {l:List Nd} (hs:RdS F s 5 (cX l)) (st:ByteArray) (hst:st.size<=100000):ae prog 219 #[s.v,.string st] F λr F'=>(∃q:Bool,r=.bool q/\(q=true↔fw l=0/\LgL l (bs st)))/\F.le F':=by
 refine Tb ?_;unfold MS;refine (kq hs).mono ?_;rintro _ F2 ⟨rfl,l2⟩;refine ⟨_,rfl,λh0=> ?_,λh0=>⟨⟨false,rfl,λh=>(by cases h),λh=>absurd h.1 h0⟩,l2⟩⟩;obtain ⟨hG,hl⟩:=tT h0;obtain ⟨ns,ht⟩:=ij hG;have hlen:=hs.nlen;have hne:=YM.2 hG.ne;have ew:IntKind.i64.wrap ((s.len:Int) - 1)=((l.length - 1:Nat):Int):=by rw [hlen,aH (by omega) (by omega)];omega
 rw [ew];intro b14 hb14;refine atI ?_;have l14:F2.le (F2.set b14 (.cells #[.int .i64 0] 3)):=ac _ hb14;have q14:=aq F2 b14 (.cells #[.int .i64 0] 3);generalize F2.set b14 (.cells #[.int .i64 0] 3)=F3 at*;refine (AH hst ht (s2:=⟨some ⟨b14,0,none⟩,1,1⟩) (fr:=[0]) (hs.le (aa l2 l14)) (RdS.new q14 rfl rfl (XA _)) (by simp) (by simp)).mono ?_;rintro _ F4 ⟨⟨o,⟨s4,rfl,h4⟩,ho,hoe⟩,l4⟩;refine ⟨s4,rfl,?_⟩;have n2:=iE ho (yp hoe);rw [aX] at n2;refine (Dk h4 (by omega) st.size).mono ?_;rintro _ F5 ⟨rfl,e⟩;obtain rfl:=e.symm;refine ⟨_,rfl,⟨_,rfl,?_⟩,aa (aa l2 l14) l4⟩;rw [decide_eq_true_eq,hoe,<- aX,IN];exact ⟨λh=>⟨h0,h⟩,λh=>h.2⟩
end
end Go.Proofs.YtenpmjhnhepfdaaGreatDoor
namespace Go.Proofs.YtenpmjhnhepfdaaGreatDoor
open Go Go.Proofs.Tryz Tr
set_option maxRecDepth 10000
abbrev RB (F:PH) (P:Prop):VR:=λr F'=>(∃q:Bool,r=.bool q/\(q=true↔P))/\F.le F'
section
variable {F F':PH} {P Q:Prop}
theorem RB.yes (h:P) (l:F.le F'):RB F P (.bool true) F':=⟨⟨true,rfl,λ_=>h,λ_=>rfl⟩,l⟩
theorem RB.no (h:¬P) (l:F.le F'):RB F P (.bool false) F':=⟨⟨false,rfl,λh=>(by cases h),λhp=>absurd hp h⟩,l⟩
theorem RB.dec [Decidable Q] (h:Q↔P) (l:F.le F'):RB F P (.bool (decide Q)) F':=⟨⟨_,rfl,by rw [decide_eq_true_eq];exact h⟩,l⟩
theorem RB.is {q:Bool} (h:q=true↔P) (l:F.le F'):RB F P (.bool q) F':=⟨⟨_,rfl,h⟩,l⟩
end
theorem St.up {G F F':PH} {As:List (Ψ)} (h:St G F As) (l:F.le F'):St G F' As:=by obtain ⟨Hs,h1,h2⟩:=h.ex;exact ⟨aa h.le l,Hs,λi A hi=>⟨(h1 i A hi).1,(h1 i A hi).2.1,aa (h1 i A hi).2.2 l⟩,h2⟩
theorem cJ {a:Bool} (h:(!a)=false):a=true:=by cases a<;>first|rfl|cases h
section
variable {F:PH}
theorem AI (b:Nat) (F:PH):ae prog 217 #[.int .u8 (b:Int)] F (RB F (f8 b)):=by refine Vh ?_;unfold Oh f8;refine ⟨λh1=>⟨λh2=> .yes (by omega) (am _),λh2=>⟨λh3=>⟨λh4=> .yes (by omega) (am _),λh4=> .dec (by omega) (am _)⟩,λh3=> .dec (by omega) (am _)⟩⟩,λh1=>⟨λh3=>⟨λh4=> .yes (by omega) (am _),λh4=> .dec (by omega) (am _)⟩,λh3=> .dec (by omega) (am _)⟩⟩
theorem EC (s:ByteArray):i6 s=true↔(∀i,i<s.size->(f8 ((bs s).getD i 0)\/(i≠0/\ie ((bs s).getD i 0))))/\s≠emp:=by unfold i6 uV;rw [Ya,Yw,aX];simp only [Yu,Yk,decide_eq_true_eq,Ya,bne_iff_ne,ne_eq,YI,List.isEmpty_eq_false_iff];refine and_congr_right λ_=>not_congr ⟨λe=>qN (e.trans rfl),λe=>by rw [e];rfl⟩
theorem sM (s:ByteArray) (hs:s.size<=1000000000):ae prog 190 #[.string s] F (RB F (i6 s=true)):=by
 refine Va ?_;unfold Oa;rw [EC];refine bF (wA · s _) s.size (λk F'=>F.le F'/\∀i,i<k->(f8 ((bs s).getD i 0)\/(i≠0/\ie ((bs s).getD i 0)))) ⟨am F,λi h=>by omega⟩ ?_;rintro k F1 N hk ⟨hl,hi⟩ next;unfold wA;refine ⟨λhlt=> ?_,λhge=> ?_⟩
 ·have hlt:k<s.size:=by omega
  have hx:Int.toNat (k:Int)<s.size:=by simpa using hlt
  have hv:(((bs s).getD k 0:Nat):Int)=((s[Int.toNat (k:Int)]'hx).toNat:Int):=by rw [<- yV s k hlt];rfl
  generalize hc:(bs s).getD k 0=c at hv;have bad:∀{F2},F1.le F2->¬(f8 c\/(k≠0/\ie c))->RB F ((∀i,i<s.size->(f8 ((bs s).getD i 0)\/(i≠0/\ie ((bs s).getD i 0))))/\s≠emp) (.bool false) F2:=λl hn=> .no (λhp=>hn (by rw [<- hc];exact hp.1 k hlt)) (aa hl l);have good:∀{F2},F1.le F2->(f8 c\/(k≠0/\ie c))->pO N s (k:Int) (RB F ((∀i,i<s.size->(f8 ((bs s).getD i 0)\/(i≠0/\ie ((bs s).getD i 0))))/\s≠emp)) F2:=λl hg=>by
   unfold pO;rw [aE hlt (by omega)];refine next _ hlt ⟨aa hl l,λi hi'=> ?_⟩;by_cases e:i=k
   ·rw [e,hc];exact hg
   ·exact hi i (by omega)
  have j3:∀d:Bool,(d=true↔ie c)->pP N s (k:Int) d (RB F ((∀i,i<s.size->(f8 ((bs s).getD i 0)\/(i≠0/\ie ((bs s).getD i 0))))/\s≠emp)) F1:=λd hd=>by
   unfold pP;refine ⟨by omega,by omega,hx,(c:Int),hv,?_⟩;refine (AI c F1).mono ?_;rintro _ F2 ⟨⟨q,rfl,hq⟩,l2⟩;refine ⟨q,rfl,λh=> ?_,λh=>good l2 (.inl (hq.1 (cJ h)))⟩;have hnl:¬f8 c:=λhl'=>by rw [hq.2 hl'] at h;cases h
   refine ⟨λh1=>bad l2 ?_,λh1=>⟨λh0=>bad l2 ?_,λh0=>good l2 (.inr ⟨by omega,hd.1 (cJ h1)⟩)⟩⟩
   ·rintro (h|h)
    ·exact hnl h
    ·rw [hd.2 h.2] at h1;cases h1
   ·rintro (h|h)
    ·exact hnl h
    ·omega
  refine ⟨by omega,by omega,hx,(c:Int),hv,λh1=>⟨by omega,by omega,hx,(c:Int),hv,j3 _ ?_⟩,λh1=>j3 _ ⟨λh=>(by cases h),λh=>by unfold ie at h;omega⟩⟩;rw [decide_eq_true_eq];unfold ie;omega
 ·have e:k=s.size:=by omega
  subst e;unfold C7;rw [gq];refine .is ?_ hl;rw [YI,decide_eq_false_iff_not];exact ⟨λh=>⟨hi,h⟩,λh=>h.2⟩
theorem jV {s:Sl} {l:List ByteArray} (hs:RL F s l) (hl:l.length<=1000000000) {n:Nat} {x:ByteArray} (hx:l[n]? =some x):ae prog 191 #[s.v,vi n] F (RB F (x≠emp/\x ∉ l.take n)):=by
 have es:=hs.len (by decide);have hn:=(N6.1 hx).1;have get:∀{F'},F.le F'->∀{i:Nat} {y:ByteArray},l[i]? =some y->∃a:Addr,s.base=some a/\0<=(i:Int)/\(i:Int)<(s.len:Int)/\F'.cell (Addr.add a (Int.toNat (i:Int)*1))=some (.string y):=λ{F'} hle {i y} hy=>by have:=(N6.1 hy).1;obtain ⟨a,c,ha,hr,hc⟩:=(hs.le hle).get (by decide) hy;rw [show c= #[.string y] from hc] at hr;exact ⟨a,ha,by omega,by omega,by rw [N5];exact aI hr rfl⟩
 refine Vb ?_;unfold Ob;refine bF (wC · s (n:Int) _) n (λk F'=>F.le F'/\x ∉ l.take k) ⟨am F,by simp⟩ ?_;rintro k F1 N hk ⟨hle,hi⟩ next;unfold wC;refine ⟨λhlt=> ?_,λhge=> ?_⟩
 ·have hlt:k<n:=by omega
  have hy:=N4 (show k<l.length by omega);generalize l[k]=y at hy;obtain ⟨a,h1,h2,h3,h4⟩:=get hle hy;obtain ⟨a',g1,g2,g3,g4⟩:=get hle hx;refine ⟨a,h1,h2,h3,_,h4,a',g1,g2,g3,_,g4,?_⟩;dsimp only;rw [gq];refine ⟨λh=> .no (λhp=>hp.2 ?_) hle,λh=> ?_⟩
  ·rw [<- of_decide_eq_true h];refine XG (i:=k) ?_;rw [YE hlt];exact hy
  ·rw [aE hlt (by omega)];refine next _ hlt ⟨hle,λhm=> ?_⟩;rw [aK hy] at hm;rcases XD.1 hm with hm|hm
   ·exact hi hm
   ·exact of_decide_eq_false h (XC.1 hm).symm
 ·have e:k=n:=by omega
  subst e;unfold C8;obtain ⟨a',g1,g2,g3,g4⟩:=get hle hx;refine ⟨a',g1,g2,g3,_,g4,?_⟩;dsimp only;rw [gq];refine .is ?_ hle;rw [YI,decide_eq_false_iff_not];exact ⟨λh=>⟨h,hi⟩,λh=>h.1⟩
structure Sml (g:Gr):Prop where
 m:Sm g
 z:Sz g
 n:g.fam.1.length<=1000000
 t:∀t∈g.toks,t.cond.1.length<=1000000
 p:∀t∈g.prods,t.cond.1.length<=1000000
 l:∀t∈g.lvs,t.cond.1.length<=1000000
 f:∀t∈g.fils,t.cond.1.length<=1000000
theorem ED {v:Γ} {g:Gr} (hg:GV F v g) (hm:Sm g):ae prog 130 #[.agg v] F (RB F (bN g=true)):=by
 obtain ⟨c,n,t,s,p,l,f,rfl,hs⟩:=hg;have ec:=hs.c.len (by decide);have et:=hs.t.len (by decide);have es:=hs.s.len (by decide);have ep:=hs.p.len (by decide);have el:=hs.l.len (by decide);have ef:=hs.f.len (by decide);have hpm:=hm.p;have hL:bN g=true↔(64<g.conds.length\/256<g.toks.length\/4096<g.fils.length\/2000<g.nons.length\/2000<g.prods.length\/2000<g.lvs.length)\/∃p∈g.prods,16<p.right.length\/16<p.lay.length:=by unfold bN;rw [Yk,decide_eq_true_eq,List.any_eq_true];simp only [decide_eq_true_eq]
 refine UP ?_;unfold NH;refine fresh λb1 F1 l1 q1 _=> ?_;rw [hL];refine ⟨_,ld q1 rfl,λh=> .yes (.inl (by omega)) l1,λh1=>⟨_,ld q1 rfl,λh=> .yes (.inl (by omega)) l1,λh2=>⟨_,ld q1 rfl,λh=> .yes (.inl (by omega)) l1,λh3=>⟨_,ld q1 rfl,λh=> .yes (.inl (by omega)) l1,λh4=>⟨_,ld q1 rfl,λh=> .yes (.inl (by omega)) l1,λh5=>⟨_,ld q1 rfl,λh=> .yes (.inl (by omega)) l1,λh6=> ?_⟩⟩⟩⟩⟩⟩;refine bF (wg · b1 _) g.prods.length (λk F'=>F1.le F'/\∀p∈g.prods.take k,¬(16<p.right.length\/16<p.lay.length)) ⟨am _,by simp⟩ ?_;rintro k F2 N hk ⟨l2,hi⟩ next;unfold wg;have l12:=aa l1 l2;refine ⟨_,ld (l2 _ _ q1) rfl,λhlt=> ?_,λhge=> ?_⟩
 ·have hlt:k<g.prods.length:=by omega
  refine ⟨_,ld (l2 _ _ q1) rfl,ixc (hs.p.le l12) (by decide) (by omega) (by omega) λa cc x hx hr hc=> ?_⟩;rw [N5] at hx;have hxm:=XG hx;obtain ⟨r1,n1,y1,rfl,hr1,hn1,hy1⟩:=hc;have e1:=hr1.len (by decide);have e2:=hy1.len (by decide);refine ⟨_,aF hr rfl,λh=> .yes (.inr ⟨x,hxm,by omega⟩) l12,λha=>⟨_,ld (l2 _ _ q1) rfl,ixc (hs.p.le l12) (by decide) (by omega) (by omega) λa' c' x' hx' hr' hc'=> ?_⟩⟩;rw [N5,hx] at hx';cases hx';obtain ⟨r2,n2,y2,rfl,hr2,hn2,hy2⟩:=hc';have e3:=hy2.len (by decide);refine ⟨_,aF hr' rfl,λh=> .yes (.inr ⟨x,hxm,by omega⟩) l12,λhb=> ?_⟩;rw [aE hlt (by omega)];refine next _ hlt ⟨l2,λp hp=> ?_⟩;rw [aK hx] at hp;rcases XD.1 hp with hp|hp
  ·exact hi p hp
  ·rw [XC.1 hp];omega
 ·have e:k=g.prods.length:=by omega
  subst e;rw [XF] at hi;unfold CO;exact .no (λh=>h.elim (λh=>by omega) λ⟨p,hp,h⟩=>hi p hp h) l12
theorem AJ {v:Γ} {g:Gr} (hg:GV F v g) (hz:Sml g):ae prog 131 #[.agg v] F (RB F (fm g)):=by
 obtain ⟨c,n,t,s,p,l,f,rfl,hs⟩:=hg;have ec:=hs.c.len (by decide);have hcl:=hz.m.c;have hfl:=hz.n;refine UQ ?_;unfold NI;refine fresh λb1 F1 l1 q1 _=> ?_;refine bF (wh · b1 _) g.conds.length (λk F'=>F1.le F'/\(∀s∈g.conds.take k,mZ s)/\be (g.conds.take k)) ⟨am _,by simp,by simp [be]⟩ ?_;rintro k F2 N hk ⟨l2,hi,hi2⟩ next;have l12:=aa l1 l2;unfold wh;refine ⟨_,ld (l2 _ _ q1) rfl,λhlt=> ?_,λhge=> ?_⟩
 ·have hlt:k<g.conds.length:=by omega
  refine ⟨_,ld (l2 _ _ q1) rfl,ixc (hs.c.le l12) (by decide) (by omega) (by omega) λa cc x hx hr hc=> ?_⟩;rw [N5] at hx;rw [show cc= #[.string x] from hc] at hr;have hxm:x∈g.conds:=XG hx;refine ⟨_,aI hr rfl,?_⟩;refine (sM x (hz.z.c x hxm)).mono ?_;rintro _ F3 ⟨⟨b,rfl,hb⟩,l3⟩;have l13:=aa l12 l3;have q3:=l3 _ _ (l2 _ _ q1);refine ⟨b,rfl,λh=> .no (λhn=>by rw [hb.2 (hn.1 x hxm).1] at h;cases h) l13,λh1=>⟨_,ld q3 rfl,?_⟩⟩;refine (jV (hs.c.le l13) hcl hx).mono ?_;rintro _ F4 ⟨⟨b',rfl,hb'⟩,l4⟩;have l14:=aa l13 l4;refine ⟨b',rfl,λh=> .no (λhn=> ?_) l14,λh2=> ?_⟩
  ·have:=fK hn.2.1 (k+1);rw [aK hx,cq] at this;rw [hb'.2 this.2] at h;cases h
  ·rw [gq,gq];refine ⟨λh=> .no (λhn=>(hn.1 x hxm).2.1 (of_decide_eq_true h)) l14,λh3=>⟨λh=> .no (λhn=>(hn.1 x hxm).2.2 (of_decide_eq_true h)) l14,λh4=> ?_⟩⟩;rw [aE hlt (by omega)];refine next _ hlt ⟨aa l2 (aa l3 l4),λs hs'=> ?_,?_⟩
   ·rw [aK hx] at hs';rcases XD.1 hs' with hs'|hs'
    ·exact hi s hs'
    ·rw [XC.1 hs'];exact ⟨hb.1 (cJ h1),of_decide_eq_false h3,of_decide_eq_false h4⟩
   ·rw [aK hx,cq];exact ⟨hi2,hb'.1 (cJ h2)⟩
 ·have e:k=g.conds.length:=by omega
  subst e;rw [XF] at hi hi2;unfold CP;refine ⟨#[n.v,vi g.fam.2],rfl,fo (l2 _ _ q1) rfl,_,ld (l2 _ _ q1) rfl,?_⟩;dsimp only;rw [ec];refine (iU (d:=g.fam) (DV.mk (hs.n.le l12)) (by unfold Fit;omega) hfl).mono ?_;rintro _ F3 ⟨rfl,l3⟩;refine ⟨_,rfl,λh=>⟨_,ld (l3 _ _ (l2 _ _ q1)) rfl,?_⟩,λh=> .no (λhn=> ?_) (aa l12 l3)⟩
  ·exact .dec ⟨λh0=>⟨hi,hi2,bv.1 h,h0⟩,λhn=>hn.2.2.2⟩ (aa l12 l3)
  ·rw [bv.2 hn.2.2.1] at h;cases h
theorem IP {v:Γ} {g:Gr} (hg:GV F v g) (hz:Sml g):ae prog 133 #[.agg v] F (RB F (ed g)):=by
 obtain ⟨c,n,t,s,p,l,f,rfl,hs⟩:=hg;have ec:=hs.s.len (by decide);have hcl:=hz.m.s;refine US ?_;unfold NK;refine fresh λb1 F1 l1 q1 _=> ?_;refine bF (wj · b1 _) g.nons.length (λk F'=>F1.le F'/\be (g.nons.take k)) ⟨am _,by simp [be]⟩ ?_;rintro k F2 N hk ⟨l2,hi2⟩ next;have l12:=aa l1 l2;unfold wj;refine ⟨_,ld (l2 _ _ q1) rfl,λhlt=> ?_,λhge=> ?_⟩
 ·have hlt:k<g.nons.length:=by omega
  have hx:=N4 hlt;generalize g.nons[k]=x at hx;refine ⟨_,ld (l2 _ _ q1) rfl,?_⟩;refine (jV (hs.s.le l12) hcl hx).mono ?_;rintro _ F4 ⟨⟨b',rfl,hb'⟩,l4⟩;have l14:=aa l12 l4;refine ⟨b',rfl,λh=> .no (λhn=> ?_) l14,λh2=> ?_⟩
  ·have:=fK hn.1 (k+1);rw [aK hx,cq] at this;rw [hb'.2 this.2] at h;cases h
  ·rw [aE hlt (by omega)];refine next _ hlt ⟨aa l2 l4,?_⟩;rw [aK hx,cq];exact ⟨hi2,hb'.1 (cJ h2)⟩
 ·have e:k=g.nons.length:=by omega
  subst e;rw [XF] at hi2;unfold CS;refine ⟨_,ld (l2 _ _ q1) rfl,λh=>⟨_,ld (l2 _ _ q1) rfl,_,ld (l2 _ _ q1) rfl,.dec ?_ l12⟩,λh=> .no (λhn=>h hn.2.1) l12⟩;rw [ec];exact ⟨λh'=>⟨hi2,h,h'⟩,λh=>h.2.2⟩
theorem uv {v:Γ} {x:Pr} (hp:Mem.rep F x v) (k:Int) (hr:x.right.length<=1000000000):ae prog 220 #[.agg v,vi k] F (RB F (k=0\/(0<k/\k<=x.right.length/\∃s,x.right[(k - 1).toNat]? =some s/\s.t=true))):=by
 obtain ⟨r,n,l,rfl,h1,h2,h3⟩:=hp;have er:=h1.len (by decide);refine Vi ?_;unfold Oi;refine fresh λb2 F1 l1 q1 _=>⟨λh=> .yes (.inl h) l1,λh0=>⟨λhk=>⟨_,ld q1 rfl,λhle=> ?_,λh=> .no (λhp=> ?_) l1⟩,λh=> .no (λhp=> ?_) l1⟩⟩
 ·refine ⟨_,ld q1 rfl,?_⟩;dsimp only;have ew:IntKind.i64.wrap (k - 1)=k - 1:=aH (by omega) (by omega);rw [ew];refine ixc (h1.le l1) (by decide) (by omega) (by omega) λa c y hy hr' hc=> ?_;rw [show c=y.arr from hc] at hr';refine ⟨_,aI hr' rfl,.is ⟨λh=> .inr ⟨hk,by omega,y,hy,h⟩,λhp=> ?_⟩ l1⟩;rcases hp with hp|⟨_,_,s,hs,ht⟩
  ·exact absurd hp h0
  ·rw [hy] at hs;cases hs;exact ht
 ·rcases hp with hp|hp
  ·exact h0 hp
  ·omega
 ·rcases hp with hp|hp
  ·exact h0 hp
  ·exact h hp.1
theorem EE {v:Γ} {x:Pr} (hp:Mem.rep F x v) (hr:x.right.length<=1000000000):ae prog 195 #[.agg v] F (RB F (cy x.right x.sco.d x.sco.k 1 7/\cy x.right x.sco.u x.sco.a 0 255)):=by
 have hp0:=hp;obtain ⟨r,n,l,rfl,h1,h2,h3⟩:=hp;refine Vf ?_;unfold Of;refine fresh λb1 F1 l1 q1 _=>⟨x.sco.arr,rfl,fo q1 rfl,?_⟩;refine yR (by simp [ai]) (λb3 F2 l2 q3=> ?_) rfl rfl;have l12:=aa l1 l2;refine ⟨_,rfl,aj (l2 _ _ q1),_,ld q3 rfl,?_⟩;refine (uv (Mem.le l12 hp0) x.sco.d hr).mono ?_;rintro _ F3 ⟨⟨b,rfl,hb⟩,l3⟩;have l13:=aa l12 l3;have q1':=l3 _ _ (l2 _ _ q1);have q3':=l3 _ _ q3;refine ⟨b,rfl,λh=> .no (λhn=> ?_) l13,λhd=>⟨_,rfl,aj q1',_,ld q3' rfl,?_⟩⟩
 ·have:b=true:=hb.2 (hn.1.elim (λh=> .inl h.1) λh=> .inr ⟨h.1,h.2.1,h.2.2.1⟩);rw [this] at h;cases h
 refine (uv (Mem.le l13 hp0) x.sco.u hr).mono ?_;rintro _ F4 ⟨⟨b',rfl,hb'⟩,l4⟩;have l14:=aa l13 l4;have q4:=l4 _ _ q3';refine ⟨b',rfl,λh=> .no (λhn=> ?_) l14,λhu=> ?_⟩
 ·have:b'=true:=hb'.2 (hn.2.elim (λh=> .inl h.1) λh=> .inr ⟨h.1,h.2.1,h.2.2.1⟩);rw [this] at h;cases h
 have hD:=hb.1 (cJ hd);have hU:=hb'.1 (cJ hu);have eD:cy x.right x.sco.d x.sco.k 1 7↔(x.sco.d=0/\x.sco.k=0)\/(x.sco.d≠0/\1<=x.sco.k/\x.sco.k<=7):=by
  unfold cy;constructor
  ·rintro (h|h)
   ·exact .inl h
   ·exact .inr ⟨by omega,h.2.2.2⟩
  ·rintro (h|h)
   ·exact .inl h
   ·have h':=hD.resolve_left h.1;exact .inr ⟨h'.1,h'.2.1,h'.2.2,h.2⟩
 have eU:cy x.right x.sco.u x.sco.a 0 255↔(x.sco.u=0/\x.sco.a=0)\/(x.sco.u≠0/\0<=x.sco.a/\x.sco.a<=255):=by
  unfold cy;constructor
  ·rintro (h|h)
   ·exact .inl h
   ·exact .inr ⟨by omega,h.2.2.2⟩
  ·rintro (h|h)
   ·exact .inl h
   ·have h':=hU.resolve_left h.1;exact .inr ⟨h'.1,h'.2.1,h'.2.2,h.2⟩
 rw [eD,eU];have j2:∀a c:Bool,(a=true↔(x.sco.d=0/\x.sco.k=0)\/(x.sco.d≠0/\1<=x.sco.k/\x.sco.k<=7))->(c=true↔(x.sco.u=0/\x.sco.a=0)\/(x.sco.u≠0/\0<=x.sco.a/\x.sco.a<=255))->fQ a c (RB F (((x.sco.d=0/\x.sco.k=0)\/(x.sco.d≠0/\1<=x.sco.k/\x.sco.k<=7))/\((x.sco.u=0/\x.sco.a=0)\/(x.sco.u≠0/\0<=x.sco.a/\x.sco.a<=255)))) F4:=λa c ha hc=>by unfold fQ;exact ⟨λh=> .is ⟨λh'=>⟨ha.1 h,hc.1 h'⟩,λh'=>hc.2 h'.2⟩ l14,λh=> .no (λh'=>by rw [ha.2 h'.1] at h;cases h) l14⟩
 have j1:∀a:Bool,(a=true↔(x.sco.d=0/\x.sco.k=0)\/(x.sco.d≠0/\1<=x.sco.k/\x.sco.k<=7))->fR b3 a (RB F (((x.sco.d=0/\x.sco.k=0)\/(x.sco.d≠0/\1<=x.sco.k/\x.sco.k<=7))/\((x.sco.u=0/\x.sco.a=0)\/(x.sco.u≠0/\0<=x.sco.a/\x.sco.a<=255)))) F4:=λa ha=>by
  unfold fR;refine ⟨_,ld q4 rfl,λk1=>⟨_,ld q4 rfl,λk2=>j2 a _ ha ⟨λ_=> .inl ⟨k1,k2⟩,λ_=>rfl⟩,λk2=>⟨_,ld q4 rfl,λk3=>absurd k1 k3,λ_=>j2 a _ ha ⟨λh=>(by cases h),λh=>by omega⟩⟩⟩,λk1=>⟨_,ld q4 rfl,λk3=>⟨_,ld q4 rfl,λk4=>⟨_,ld q4 rfl,j2 a _ ha ?_⟩,λk4=>j2 a _ ha ⟨λh=>(by cases h),λh=>by omega⟩⟩,λk3=>absurd k1 k3⟩⟩;rw [decide_eq_true_eq];constructor
  ·intro h;exact .inr ⟨k1,k4,h⟩
  ·intro h;omega
 refine ⟨_,ld q4 rfl,λk1=>⟨_,ld q4 rfl,λk2=>j1 _ ⟨λ_=> .inl ⟨k1,k2⟩,λ_=>rfl⟩,λk2=>⟨_,ld q4 rfl,λk3=>absurd k1 k3,λ_=>j1 _ ⟨λh=>(by cases h),λh=>by omega⟩⟩⟩,λk1=>⟨_,ld q4 rfl,λk3=>⟨_,ld q4 rfl,λk4=>⟨_,ld q4 rfl,j1 _ ?_⟩,λk4=>j1 _ ⟨λh=>(by cases h),λh=>by omega⟩⟩,λk3=>absurd k1 k3⟩⟩;rw [decide_eq_true_eq];constructor
 ·intro h;exact .inr ⟨k1,k4,h⟩
 ·intro h;omega
end
def Qa (n:Nat) (t:Tk):Prop:=0<=t.cls/\t.cls<=2/\iN t.cond n/\(t.lit≠emp->t.smp=emp/\t.pat=[])/\(t.lit=emp->fw t.pat=0/\(t.cls=0->t.smp≠emp/\LgL t.pat (bs t.smp))/\(t.cls≠0->t.smp=emp))
theorem IQ {n:Nat} {done:List ByteArray} {t:Tk}:yT n done t↔(t.name≠emp/\t.name ∉ done)/\Qa n t:=by unfold yT Qa;rw [and_assoc]
section
variable {F:PH}
theorem EF {v:Γ} {x:Tk} {n:Nat} (hx:Mem.rep F x v) (hc:x.cond.1.length<=1000000) (hs:x.smp.size<=100000):ae prog 192 #[.agg v,vi n] F (RB F (Qa n x)):=by
 obtain ⟨p,m,rfl,hp,hm⟩:=hx;have ep:=hp.len (by decide);refine Vc ?_;unfold Oc;refine fresh λb2 F1 l1 q1 _=>⟨_,ld q1 rfl,λh=> .no (λhn=>by have:=hn.1;omega) l1,λh0=>⟨_,ld q1 rfl,λh=> .no (λhn=>by have:=hn.2.1;omega) l1,λh1=>⟨#[m.v,vi x.cond.2],rfl,fo q1 rfl,?_⟩⟩⟩;refine (iU (d:=x.cond) (DV.mk (hm.le l1)) (by unfold Fit;omega) hc).mono ?_;rintro _ F2 ⟨rfl,l2⟩;have l12:=aa l1 l2;refine ⟨_,rfl,λh=> .no (λhn=> ?_) l12,λhf=>⟨_,ld (l2 _ _ q1) rfl,?_⟩⟩
 ·rw [bv.2 hn.2.2.1] at h;cases h
 have hfit:=bv.1 (cJ hf);dsimp only;rw [gq];refine ⟨λhl=> ?_,λhl=> ?_⟩
 ·have hl:x.lit≠emp:=λe=>by rw [decide_eq_true e] at hl;cases hl
  refine ⟨_,ld (l2 _ _ q1) rfl,λh=>⟨_,ld (l2 _ _ q1) rfl,?_⟩,λh=> .no (λhn=> ?_) l12⟩
  ·dsimp only;rw [gq];refine .dec ⟨λe=>⟨by omega,by omega,hfit,λ_=>⟨e,XO (by omega)⟩,λe=>absurd e hl⟩,λhn=>(hn.2.2.2.1 hl).1⟩ l12
  ·rw [(hn.2.2.2.1 hl).2] at ep;exact h (by rw [ep];rfl)
 ·have hl:x.lit=emp:=by
   cases e:decide (x.lit=emp) with
   |true=>exact of_decide_eq_true e
   |false=>rw [e] at hl;cases hl
  refine ⟨_,ld (l2 _ _ q1) rfl,?_⟩;refine (kq (RL.nds.1 (hp.le l12))).mono ?_;rintro _ F3 ⟨rfl,l3⟩;have l13:=aa l12 l3;have q3:=l3 _ _ (l2 _ _ q1);refine ⟨_,rfl,λh=> .no (λhn=>h (hn.2.2.2.2 hl).1) l13,λhk=>⟨_,ld q3 rfl,λhc0=>⟨_,ld q3 rfl,?_⟩,λhc0=>⟨_,ld q3 rfl,?_⟩⟩⟩
  ·dsimp only;rw [gq];exact .dec ⟨λe=>⟨by omega,by omega,hfit,λh=>absurd hl h,λ_=>⟨YV.1 hk,λh=>absurd h hc0,λ_=>e⟩⟩,λhn=>(hn.2.2.2.2 hl).2.2 hc0⟩ l13
  ·have hc0:=YV.1 hc0;dsimp only;rw [gq];refine ⟨λhse=>⟨_,ld q3 rfl,_,ld q3 rfl,?_⟩,λhse=> .no (λhn=> ?_) l13⟩
   ·refine (oD (RL.nds.1 (hp.le l13)) x.smp hs).mono ?_;rintro _ F4 ⟨⟨q,rfl,hq⟩,l4⟩;refine ⟨q,rfl,.is ⟨λh=> ?_,λhn=>hq.2 ⟨(hn.2.2.2.2 hl).1,((hn.2.2.2.2 hl).2.1 hc0).2⟩⟩ (aa l13 l4)⟩;have:=hq.1 h;exact ⟨by omega,by omega,hfit,λh=>absurd hl h,λ_=>⟨this.1,λ_=>⟨λe=>(by rw [decide_eq_true e] at hse;cases hse),this.2⟩,λh=>absurd hc0 h⟩⟩
   ·have:=((hn.2.2.2.2 hl).2.1 hc0).1;rw [decide_eq_false this] at hse;cases hse
theorem sN {G F:PH} {s:Sl} {l:List ByteArray} {As:List (Ψ)} (h:St G F (own s 9 1 (l.map Value.string)::As)) (x:ByteArray) (hl:l.length<=10000000000) {K:Sl->Ψ}
  (k:∀s' G' F',G.le G'->St G' F' (own s' 9 1 ((l++[x]).map Value.string)::As)->RL F' s' (l++[x])->K s' F'):
  ∀b,F b=none->atF (F.set b (.cells #[.string x] 9)) λF=>aG prog (Builtin.append_ #[30,30] 30 #[s.v,Sl.v (Sl.mk (some (Addr.mk b 0 none)) 1 1)]) F λv F=>∃s':Sl,v=Sl.v s'/\K s' F:=by
 have hs:s.len=l.length:=by have:=(h.ownAt (i:=0) rfl).1.rd.len;rw [XH] at this;omega
 refine h.push0 FE (c:= #[.string x]) rfl (by simp [ai]) (by omega) λs' G' F' l' h' _=> ?_;have e:l.map Value.string++(#[Value.string x]:Γ).toList=(l++[x]).map Value.string:=by rw [XP];rfl
 rw [e] at h';exact k s' G' F' l' h' (RL.strs.2 (h'.ownAt (i:=0) rfl).1.rd)
theorem AK {v:Γ} {g:Gr} (hg:GV F v g) (hz:Sml g):ae prog 132 #[.agg v] F (RB F (cO g.conds.length [] g.toks)):=by
 obtain ⟨c,n,t,s,p,l,f,rfl,hs⟩:=hg;have ec:=hs.c.len (by decide);have et:=hs.t.len (by decide);have hcl:=hz.m.t;refine UR ?_;unfold NJ;refine (St.start F).newG λb1 G1 F1 l1 q1 _ h=> ?_;refine h.new λb5 F2 h=> ?_;have h:=h.imp (A':=own (Sl.mk (some (Addr.mk b5 0 none)) 0 0) 9 1 []) 0 rfl λH _ hH=>cD hH
 refine ⟨λm nm i F'=>∃(k:Nat) (G:PH),i=(k:Int)/\m=g.toks.length - k/\k<=g.toks.length/\G1.le G/\St G F' [own nm 9 1 (((g.toks.take k).map Tk.name).map Value.string)]/\(cO g.conds.length [] g.toks↔cO g.conds.length ((g.toks.take k).map Tk.name) (g.toks.drop k)),g.toks.length,
  ⟨0,G1,rfl,rfl,by omega,am _,h,Iff.rfl⟩,?_⟩
 rintro m nm i F3 ⟨k,G,rfl,rfl,hk,lG,h,hE⟩;have l1G:=aa l1 lG;unfold CR;have lF:=aa l1G h.le;refine ⟨_,ld (h.le _ _ (lG _ _ q1)) rfl,λhlt=> ?_,λhge=> ?_⟩
 ·have hlt:k<g.toks.length:=by omega
  refine ⟨_,ld (h.le _ _ (lG _ _ q1)) rfl,ixc (hs.t.le lF) (by decide) (by omega) (by omega) λa cc x hx hr hc=> ?_⟩;rw [N5] at hx;have hxm:=XG hx;obtain ⟨pp,pn,rfl,hpp,hpn⟩:=hc;rw [bP hx,cO,IQ] at hE;refine ⟨_,aI hr rfl,?_⟩;refine sN h x.name (by rw [XH,XL];omega) λs' G' F4 lG' h hrl=> ?_;have lF4:=aa l1G (aa lG' h.le);have hnx:((g.toks.take k).map Tk.name++[x.name])[k]? =some x.name:=by rw [Yb (by rw [XH,XL];omega),XH,XL,Nat.min_eq_left hk,Nat.sub_self];rfl
  have htk:((g.toks.take k).map Tk.name++[x.name]).take k=(g.toks.take k).map Tk.name:=by rw [XW (by rw [XH,XL];omega),XK (by rw [XH,XL];omega)]
  refine (jV hrl (by rw [N3,XH,XL,XJ];omega) hnx).mono ?_;rintro _ F5 ⟨⟨b,rfl,hb⟩,l5⟩;rw [htk] at hb;have h:=h.up l5;have lF5:=aa lF4 l5;have q5:=h.le _ _ (lG' _ _ (lG _ _ q1));refine ⟨b,rfl,λhn=> .no (λho=> ?_) lF5,λhn=>⟨_,ld q5 rfl,ixc (hs.t.le lF5) (by decide) (by omega) (by omega) λa' c' x' hx' hr' hc'=> ?_⟩⟩
  ·rw [hb.2 (hE.1 ho).1.1] at hn;cases hn
  ·rw [N5,hx] at hx';cases hx';refine ⟨_,Mem.len hc',hr',_,ld q5 rfl,?_⟩;dsimp only;rw [ec];refine (EF hc' (hz.t x hxm) (hz.z.t x hxm)).mono ?_;rintro _ F6 ⟨⟨b',rfl,hb'⟩,l6⟩;have h:=h.up l6;have lF6:=aa lF5 l6;refine ⟨b',rfl,ld (l6 _ _ q5) rfl,ld (l6 _ _ q5) rfl,λhn'=> .no (λho=> ?_) lF6,λhn'=> ?_⟩
   ·rw [hb'.2 (hE.1 ho).1.2] at hn';cases hn'
   ·rw [aE hlt (by omega)];refine ⟨g.toks.length - (k+1),by omega,k+1,G',rfl,rfl,by omega,aa lG lG',?_,?_⟩
    ·rw [aK hx,XP];exact h
    ·rw [aK hx,XP];exact hE.trans ⟨λh=>h.2,λh=>⟨⟨hb.1 (cJ hn),hb'.1 (cJ hn')⟩,h⟩⟩
 ·have e:k=g.toks.length:=by omega
  rw [e,Ys,cO] at hE;unfold CQ;exact .yes (hE.2 trivial) lF
theorem yq {v w:Γ} {g:Gr} {x:Pr} (hg:GV F v g) (hx:Mem.rep F x w) (hl:x.right.length<=1000000000):ae prog 193 #[.agg v,.agg w] F (RB F (dh g x)):=by
 obtain ⟨c,n,t,s,p,l,f,rfl,hs⟩:=hg;obtain ⟨r,m,y,rfl,hr,hm,hy⟩:=hx;have et:=hs.t.len (by decide);have es:=hs.s.len (by decide);have er:=hr.len (by decide);refine Vd ?_;unfold Od;refine fresh λb2 F1 l1 q2 _=>fresh λb3 F2 l2 q3 _=> ?_;have l12:=aa l1 l2;replace q2:=l2 _ _ q2;refine bF (wD · b2 b3 _) x.right.length (λk F'=>F2.le F'/\∀s∈x.right.take k,iO g s) ⟨am _,by simp⟩ ?_;rintro k F3 N hk ⟨l3,hi⟩ next;have l13:=aa l12 l3;unfold wD;refine ⟨_,ld (l3 _ _ q3) rfl,λhlt=> ?_,λhge=> ?_⟩
 ·have hlt:k<x.right.length:=by omega
  refine ⟨_,ld (l3 _ _ q3) rfl,ixc (hr.le l13) (by decide) (by omega) (by omega) λa cc z hz hrz hc=> ?_⟩;rw [N5] at hz;rw [show cc=z.arr from hc] at hrz;have hzm:=XG hz;refine ⟨_,rfl,hrz,?_⟩;refine yR (by simp [ai]) (λb6 F4 l4 q6=> ?_) rfl rfl;have l14:=aa l13 l4;have p2:=l4 _ _ (l3 _ _ q2);have good:iO g z->pQ N b2 b3 (k:Int) (RB F (dh g x)) F4:=λh=>by
   unfold pQ;rw [aE hlt (by omega)];refine next _ hlt ⟨aa l3 l4,λs hs'=> ?_⟩;rw [aK hz] at hs';rcases XD.1 hs' with hs'|hs'
   ·exact hi s hs'
   ·rw [XC.1 hs'];exact h
  have bad:¬iO g z->RB F (dh g x) (.bool false) F4:=λh=> .no (λho=>h (ho.2 z hzm)) l14;have j3:∀most:Nat,most=(if z.t then g.toks.length else g.nons.length)->pR N b2 b3 (k:Int) b6 (most:Int) (RB F (dh g x)) F4:=λmost hmost=>by
   unfold pR;refine ⟨_,ld q6 rfl,λh=>bad λhn=>by have:=hn.1;omega,λh0=>⟨_,ld q6 rfl,λh=>bad λhn=> ?_,λh1=>⟨_,ld q6 rfl,λht=>⟨_,ld p2 rfl,_,ld q6 rfl,?_⟩,λht=>good ⟨by omega,λ_=> ?_,λh=>by rw [ht] at h;cases h⟩⟩⟩⟩
   ·cases e:z.t with
    |true=>rw [e,if_pos rfl] at hmost;obtain ⟨u,hu,_⟩:=hn.2.2 e;have:=(N6.1 hu).1;have:=hn.1;omega
    |false=>rw [e,if_neg (by decide)] at hmost;have:=hn.2.1 e;omega
   ·rw [ht,if_pos rfl] at hmost;refine ixc (hs.t.le l14) (by decide) (by omega) (by omega) λa2 c2 u hu hru hcu=> ?_;obtain ⟨p2,n2,rfl,_⟩:=hcu;refine ⟨_,aF hru rfl,λh=>bad λhn=> ?_,λh=>good ⟨by omega,λh=>(by rw [ht] at h;cases h),λ_=>⟨u,hu,YV.1 h⟩⟩⟩;obtain ⟨u',hu',hc'⟩:=hn.2.2 ht;rw [hu] at hu';cases hu';exact h hc'
   ·rw [ht,if_neg (by decide)] at hmost;omega
  refine ⟨_,ld p2 rfl,_,ld q6 rfl,λht=>⟨_,ld p2 rfl,?_⟩,λht=> ?_⟩
  ·dsimp only;rw [et];exact j3 _ (by rw [ht];rfl)
  ·rw [es];exact j3 _ (by rw [ht];rfl)
 ·have e:k=x.right.length:=by omega
  subst e;rw [XF] at hi;unfold C9;refine ⟨_,ld (l3 _ _ q3) rfl,λh0=>⟨_,ld (l3 _ _ q3) rfl,_,ld (l3 _ _ q2) rfl,.dec ?_ l13⟩,λh=> .no (λho=>h ho.1.1) l13⟩;rw [es];exact ⟨λh=>⟨⟨h0,λ_=>h,λh=>(by cases h)⟩,hi⟩,λho=>ho.1.2.1 rfl⟩
theorem oE {w:Γ} {x:Pr} (hx:Mem.rep F x w) (h1:x.right.length<=1000000000) (h2:x.lay.length<=1000000000):ae prog 194 #[.agg w] F (RB F (∀y∈x.lay,lw x.right y)):=by
 obtain ⟨r,m,y,rfl,hr,hm,hy⟩:=hx;have er:=hr.len (by decide);have ey:=hy.len (by decide);refine Ve ?_;unfold Oe;refine fresh λb1 F1 l1 q1 _=> ?_;refine bF (wE · b1 _) x.lay.length (λk F'=>F1.le F'/\∀s∈x.lay.take k,lw x.right s) ⟨am _,by simp⟩ ?_;rintro k F3 N hk ⟨l3,hi⟩ next;have l13:=aa l1 l3;unfold wE;refine ⟨_,ld (l3 _ _ q1) rfl,λhlt=> ?_,λhge=> ?_⟩
 ·have hlt:k<x.lay.length:=by omega
  refine ⟨_,ld (l3 _ _ q1) rfl,ixc (hy.le l13) (by decide) (by omega) (by omega) λa cc z hz hrz hc=> ?_⟩;rw [N5] at hz;rw [show cc=z.arr from hc] at hrz;have hzm:=XG hz;refine ⟨_,rfl,hrz,?_⟩;refine yR (by simp [ai]) (λb4 F4 l4 q4=> ?_) rfl rfl;have l14:=aa l13 l4;have p1:=l4 _ _ (l3 _ _ q1);have good:lw x.right z->pT N b1 (k:Int) (RB F (∀y∈x.lay,lw x.right y)) F4:=λh=>by
   unfold pT;rw [aE hlt (by omega)];refine next _ hlt ⟨aa l3 l4,λs hs'=> ?_⟩;rw [aK hz] at hs';rcases XD.1 hs' with hs'|hs'
   ·exact hi s hs'
   ·rw [XC.1 hs'];exact h
  have bad:¬lw x.right z->RB F (∀y∈x.lay,lw x.right y) (.bool false) F4:=λh=> .no (λho=>h (ho z hzm)) l14;unfold lw at good bad;refine ⟨_,ld q4 rfl,λh=>bad (by omega),λg1=>⟨_,ld q4 rfl,λh=>bad (by omega),λg2=>⟨_,ld q4 rfl,λh=>bad (by omega),λg3=>⟨_,ld q4 rfl,_,ld p1 rfl,λh=>bad (by omega),λg4=>⟨_,ld q4 rfl,λh=>bad (by omega),λg5=>⟨_,ld q4 rfl,_,ld p1 rfl,λh=>bad (by omega),λg6=>⟨_,ld q4 rfl,λk1=>⟨_,ld q4 rfl,λh=>bad λhn=>h (hn.2.2.2.2.2.2 k1),λh=>good ?_⟩,λk1=>good ?_⟩⟩⟩⟩⟩⟩⟩
  ·exact ⟨by omega,by omega,by omega,by omega,by omega,by omega,λ_=>YV.1 h⟩
  ·exact ⟨by omega,by omega,by omega,by omega,by omega,by omega,λh=>absurd h k1⟩
 ·have e:k=x.lay.length:=by omega
  subst e;rw [XF] at hi;unfold Da;exact .yes hi l13
end
end Go.Proofs.YtenpmjhnhepfdaaGreatDoor

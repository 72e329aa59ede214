/-
  EncodingMatchesReference: the walk.
-/
import Derived.Test.YtenpmjhnhepfdaaGreatDoorNi
import Derived.Test.YtenpmjhnhepfdaaGreatDoorJk
import Derived.Test.YtenpmjhnhepfdaaGreatDoorLh
namespace Go.Proofs.YtenpmjhnhepfdaaGreatDoor
open Go.IntKind (i64 u8 u64)
open Go Go.Proofs.Tryz Tr
set_option maxRecDepth 10000
section
variable {G F:PH} {As:List (Ψ)}
theorem ye {os:Sl} {out:Δ} {n:Nat} (h:St G F (own os 5 1 (out.map vB)::As)) (hn:n<9223372036854775808) (hl:(out++bQ n).length<=400000000000):
  ae prog 142 #[os.v,vi (n:Int)] F λr F'=>∃s' G',r=Sl.v s'/\G.le G'/\St G' F' (own s' 5 1 ((out++bQ n).map vB)::As):=by
 refine U1 ?_;unfold NU;refine ⟨λm s i F'=>∃(k:Nat) (G2:PH) (o2:Δ),i=(k:Int)/\m=k/\k<=n/\G.le G2/\St G2 F' (own s 5 1 (o2.map vB)::As)/\out++bQ n=o2++bQ k,n,⟨n,G,out,rfl,rfl,XA _,am _,h,rfl⟩,?_⟩;rintro m s i F2 ⟨k,G2,o2,rfl,hm,hk,l2,h,he⟩;have hlen:=hl;rw [he,N3] at hlen;have:=dX k;have hs:s.len=o2.length:=by have:=(bj.rd (h.ownAt (i:=0) rfl).1).len;rw [XH,XS] at this;exact this.symm
 unfold C4;refine ⟨λhb=> ?_,λhb=> ?_⟩
 ·have hb':¬k<128:=by omega
  have e1:u8.wrap (i64.wrap (Int.tmod (k:Int) 128+128))=((k % 128+128:Nat):Int):=by rw [show Int.tmod (k:Int) 128=((k % 128:Nat):Int) from fX k 128,aH (by omega) (by omega),zx (by omega) (by omega)];omega
  have e2:i64.wrap (Int.tdiv (k:Int) 128)=((k / 128:Nat):Int):=by rw [show Int.tdiv (k:Int) 128=((k / 128:Nat):Int) by rw [YC (by omega)];exact (Int.natCast_ediv k 128).symm,aH (by omega) (by omega)]
  rw [e1,e2];refine h.push0 D4 (c:= #[vB (k % 128+128)]) rfl (by simp [ai]) (by omega) λs3 G3 F3 l3 h hl3=> ?_;refine ⟨k / 128,by rw [hm];exact Nat.div_lt_self (by omega) (by decide),k / 128,G3,o2++[k % 128+128],rfl,rfl,by omega,aa l2 l3,by rw [XP];exact h,?_⟩;rw [he,gK hb',Xz];rfl
 ·have hb':k<128:=by omega
  unfold C3;rw [zx (x:=(k:Int)) (by omega) (by omega)];refine h.push0 D4 (c:= #[vB k]) rfl (by simp [ai]) (by omega) λs3 G3 F3 l3 h hl3=>⟨s3,G3,rfl,aa l2 l3,?_⟩;rw [he,bR hb',XP];exact h
end
def Ws (G0:PH) (ls:Sl) (L:Φ) (bw:Nat) (F:PH) (rest:Φ) (out:Δ):Prop:=
 ∃(G:PH) (os:Sl) (k:Nat),G0.le G/\L.drop k=rest/\k<=L.length/\St G F [own os 5 1 (out.map vB),pt bw (.cells #[ls.v,vi k,os.v] 122)]
structure Wl (G0:PH) (ls:Sl) (L:Φ):Prop where
 rd:RdS G0 ls 1 (L.map vi)
 l:L.length<=400000000000
abbrev wp (bw:Nat):Value:=.pointer (some (Addr.mk bw 0 none))
section
variable {G0 F:PH} {ls:Sl} {L rest:Φ} {bw:Nat} {out:Δ}
theorem dO (K:Wl G0 ls L) {x:Int} (h:Ws G0 ls L bw F (x::rest) out) (h0:0<=x) (h1:x<9223372036854775808) (hl:(out++eI x).length<=400000000000):
  ae prog 48 #[wp bw] F λr F'=>r=vi x/\Ws G0 ls L bw F' rest (out++eI x):=by
 obtain ⟨G,os,k,lG,hd,hk,h⟩:=h;have hx:L[k]? =some x:=by rw [<- List.head?_drop,hd];rfl
 have hkl:=(N6.1 hx).1;have hL:=K.l;have hs:ls.len=L.length:=by have:=K.rd.len;rw [XH,XS] at this;exact this.symm
 refine Xg ?_;unfold Uq;refine ⟨_,rfl,_,h.ld1 rfl,_,by rw [av];exact h.ld1 rfl,?_⟩;obtain ⟨a,a1,a2,a3,a4⟩:=(K.rd.le (aa lG h.le)).at1 (i:=k) (v:=vi x) (by rw [XM,hx];rfl);refine ⟨a,a1,a2,a3,x,a4,_,by rw [av];exact h.ld1 rfl,?_⟩;dsimp only;rw [av,aE hkl (by omega)];refine h.set1 (w':= #[ls.v,vi ((k+1:Nat):Int),os.v]) (by show 1<3;decide) rfl λF2 h=>⟨_,by rw [av];exact h.ld1 rfl,?_⟩;have ex:((x.toNat:Nat):Int)=x:=Int.toNat_of_nonneg h0;have sp:=ye h (n:=x.toNat) (by omega) hl;rw [ex] at sp;refine sp.mono ?_;rintro _ F3 ⟨s3,G3,rfl,l3,h⟩;refine ⟨_,rfl,?_⟩;rw [av];refine h.set1 (w':= #[ls.v,vi ((k+1:Nat):Int),s3.v]) (by show 2<3;decide) rfl λF4 h=>⟨rfl,G3,s3,k+1,aa lG l3,?_,hkl,h⟩;have:=bP hx;rw [hd] at this;exact (List.cons.inj this).2.symm
def Nn (xs:Φ):Prop:=∀x∈xs,0<=x/\x<9223372036854775808
theorem Db (K:Wl G0 ls L) {xs:Φ} (h:Ws G0 ls L bw F (xs++rest) out) (hx:Nn xs) (hl:(out++xs.flatMap eI).length<=400000000000):
  ae prog 51 #[wp bw,vi (xs.length:Int)] F λr F'=>r=.tuple #[]/\Ws G0 ls L bw F' rest (out++xs.flatMap eI):=by
 have hxl:xs.length<=(xs.flatMap eI).length:=by
  clear hl h hx;induction xs with
  |nil=>simp
  |cons x xs ih=>rw [XT,N3,XI];have:0<(eI x).length:=dX _;omega
 have hl2:=hl;rw [N3] at hl2;refine Xj ?_;unfold Ut;refine bF (AB · (some (Addr.mk bw 0 none)) (xs.length:Int) _) xs.length (λk F'=>Ws G0 ls L bw F' (xs.drop k++rest) (out++(xs.take k).flatMap eI)) (by simpa using h) ?_;rintro k F2 N hk h next;unfold AB;refine ⟨λhlt=> ?_,λhge=> ?_⟩
 ·have hlt:k<xs.length:=by omega
  obtain ⟨x,hx'⟩:∃x,xs[k]? =some x:=⟨_,N4 hlt⟩;obtain ⟨x0,x1⟩:=hx x (XG hx');rw [bP hx',XY] at h;have e:out++(xs.take k).flatMap eI++eI x=out++(xs.take (k+1)).flatMap eI:=by rw [aK hx',XU,Yn,Xz]
  refine (dO K h x0 x1 ?_).mono ?_
  ·rw [e];have:xs.flatMap eI=(xs.take (k+1)).flatMap eI++(xs.drop (k+1)).flatMap eI:=by rw [<- XU,X9]
   rw [this,N3] at hl2;rw [N3];omega
  ·rintro _ F3 ⟨rfl,h⟩;refine ⟨_,rfl,?_⟩;rw [aE hlt (by omega)];rw [e] at h;exact next _ hlt h
 ·have e:k=xs.length:=by omega
  subst e;rw [XF,Ys,XX] at h;exact ⟨rfl,h⟩
theorem IH (K:Wl G0 ls L) {xs:Φ} {m k:Nat} (h:Ws G0 ls L bw F ((k:Int)::xs++rest) out) (he:xs.length=m*k) (hk:k<9223372036854775808) (hx:Nn xs) (hl:(out++bQ k++xs.flatMap eI).length<=400000000000):
  ae prog 50 #[wp bw,vi (m:Int)] F λr F'=>r=.tuple #[]/\Ws G0 ls L bw F' rest (out++bQ k++xs.flatMap eI):=by
 have hxl:xs.length<=(xs.flatMap eI).length:=by
  clear hl h hx he;induction xs with
  |nil=>simp
  |cons x xs ih=>rw [XT,N3,XI];have:0<(eI x).length:=dX _;omega
 have hl2:=hl;rw [N3] at hl2;refine Xi ?_;unfold Us;rw [XY] at h;refine (dO K h (by omega) (by omega) (by show (out++bQ k).length<=_;omega)).mono ?_;rintro _ F2 ⟨rfl,h⟩;have h:Ws G0 ls L bw F2 (xs++rest) (out++bQ k):=h;refine ⟨_,rfl,?_⟩;dsimp only;rw [show i64.wrap ((m:Int)*(k:Int))=(xs.length:Int) by rw [he,show (m:Int)*(k:Int)=((m*k:Nat):Int) by norm_cast,aH (by omega) (by omega)]];refine (Db K h hx hl).mono ?_;rintro _ F3 ⟨rfl,h⟩;exact ⟨rfl,rfl,h⟩
end
theorem um {α:Type} {w:α->Φ} {f:α->Δ} (h:∀x,(w x).flatMap eI=f x) (xs:List α):(xs.flatMap w).flatMap eI=xs.flatMap f:=by rw [List.flatMap_assoc];congr 1;funext x;exact h x
theorem yf {α:Type} {w:α->Φ} {m:Nat} (h:∀x,(w x).length=m) (xs:List α):(xs.flatMap w).length=m*xs.length:=by
 induction xs with
 |nil=>simp
 |cons x xs ih=>rw [XT,N3,XI,ih,h,Nat.mul_succ,Nat.add_comm]
theorem I63.nn {x:Int} (h:I63 x):0<=x/\x<9223372036854775808:=⟨h.1,h.2⟩
theorem Vj (b:Br):(wBr b).flatMap eI=eBr b:=by unfold wBr eBr;simp [Xz]
theorem Vk (b:Nd):(wNd b).flatMap eI=eNd b:=by unfold wNd eNd;simp [Xz]
theorem Dc (b:Bool):eI (wF b)=eB b:=by cases b<;>exact bR (by decide)
theorem Vl (b:Sy):(wSy b).flatMap eI=eSy b:=by unfold wSy eSy;simp [Dc]
theorem Vm (b:Cn):(wCn b).flatMap eI=eCn b:=by unfold wCn eCn;simp [Xz]
section
variable {G0 F:PH} {ls:Sl} {L rest:Φ} {bw:Nat} {out:Δ}
theorem js (K:Wl G0 ls L) {d:Dia} (h:Ws G0 ls L bw F (gZ d++rest) out) (hd:pD d) (hl:(out++eD d).length<=400000000000):
  ae prog 47 #[wp bw] F λr F'=>r=.tuple #[]/\Ws G0 ls L bw F' rest (out++eD d):=by
 have e1:gZ d++rest=(d.1.length:Int)::d.1.flatMap wBr++(d.2::rest):=by unfold gZ;simp [Xz]
 have e2:out++eD d=out++bQ d.1.length++(d.1.flatMap wBr).flatMap eI++eI d.2:=by rw [um Vj];unfold eD eL;simp only [Xz]
 rw [e1] at h;rw [e2] at hl ⊢;refine Xf ?_;unfold Uo;refine (IH K (m:=3) (k:=d.1.length) h (yf (w:=wBr) (m:=3) (λ_=>rfl) d.1) hd.1.1 (λx hx=> ?_) (by rw [N3] at hl;omega)).mono ?_
 ·obtain ⟨b,hb,hx⟩:=List.mem_flatMap.1 hx;have hb:=hd.1.2 b hb;have hx:x=b.v\/x=b.l\/x=b.h:=by simpa [wBr] using hx
  rcases hx with rfl|rfl|rfl
  ·exact hb.1.nn
  ·exact hb.2.1.nn
  ·exact hb.2.2.nn
 rintro _ F2 ⟨rfl,h⟩;refine ⟨rfl,?_⟩;refine (dO K h hd.2.nn.1 hd.2.nn.2 hl).mono ?_;rintro _ F3 ⟨rfl,h⟩;exact ⟨_,rfl,rfl,h⟩
theorem mL (K:Wl G0 ls L) {α:Type} {xs:List α} {w:α->Φ} {f:α->Δ} {m:Nat} (h:Ws G0 ls L bw F ([(xs.length:Int)]++xs.flatMap w++rest) out) (hw:∀x,(w x).flatMap eI=f x) (hm:∀x,(w x).length=m) (hk:xs.length<9223372036854775808) (hx:∀x∈xs,Nn (w x)) (hl:(out++eL f xs).length<=400000000000):
  ae prog 50 #[wp bw,vi (m:Int)] F λr F'=>r=.tuple #[]/\Ws G0 ls L bw F' rest (out++eL f xs):=by
 have e2:out++eL f xs=out++bQ xs.length++(xs.flatMap w).flatMap eI:=by rw [um hw];unfold eL;rw [Xz]
 rw [e2] at hl ⊢;exact IH K (k:=xs.length) h (yf hm _) hk (λy hy=>by obtain ⟨b,hb,hy⟩:=List.mem_flatMap.1 hy;exact hx b hb y hy) hl
theorem Vn {x:ByteArray} {k:Nat} (hk:k<x.size):(bs x)[k]? =some (wB x k).toNat/\u8.wrap (wB x k)=((wB x k).toNat:Int):=by
 have h1:wB x k=((x[k]'hk).toNat:Int):=by unfold wB;rw [dif_pos hk,aH (by omega) (by have:=UInt8.toNat_lt (x[k]'hk);omega)]
 have h2:(x[k]'hk).toNat<256:=UInt8.toNat_lt _;rw [h1];refine ⟨?_,zx (by omega) (by omega)⟩;rw [N5,yV x k hk];have hb:k<(bs x).length:=by rw [aX];exact hk
 rw [XQ,N4 hb];rfl
theorem sI (K:Wl G0 ls L) {x:ByteArray} (h:Ws G0 ls L bw F (cx x++rest) out) (hx:pS x) (hl:(out++eS x).length<=400000000000):
  ae prog 49 #[wp bw] F λr F'=>r=.tuple #[]/\Ws G0 ls L bw F' rest (out++eS x):=by
 have hs:ls.len=L.length:=by have:=K.rd.len;rw [XH,XS] at this;exact this.symm
 have hL:=K.l;have hx:x.size<9223372036854775808:=hx;unfold eS at hl ⊢;rw [<- Xz] at hl ⊢;have hl2:=hl;rw [N3,aX] at hl2;refine Xh ?_;unfold Ur;refine (dO K (x:=(x.size:Int)) h (by omega) (by omega) (by show (out++bQ x.size).length<=_;omega)).mono ?_;rintro _ F2 ⟨rfl,h⟩;have h:Ws G0 ls L bw F2 ((List.range x.size).map (wB x)++rest) (out++bQ x.size):=h;refine ⟨_,rfl,?_⟩;refine bF (AA · (some (Addr.mk bw 0 none)) (x.size:Int) _) x.size (λk F'=>Ws G0 ls L bw F' (((List.range x.size).map (wB x)).drop k++rest) (out++bQ x.size++(bs x).take k)) (by simpa using h) ?_;rintro k F3 N hk h next;unfold AA;refine ⟨λhlt=> ?_,λhge=> ?_⟩
 ·have hlt:k<x.size:=by omega
  obtain ⟨b1,b2⟩:=Vn hlt;have hr:((List.range x.size).map (wB x))[k]? =some (wB x k):=by rw [XM,Yi hlt];rfl
  obtain ⟨G,os,j,lG,hd,hj,h⟩:=h;rw [bP hr,XY] at hd;have hx':L[j]? =some (wB x k):=by rw [<- List.head?_drop,hd];rfl
  have hjl:=(N6.1 hx').1;obtain ⟨a,a1,a2,a3,a4⟩:=(K.rd.le (aa lG h.le)).at1 (i:=j) (v:=vi (wB x k)) (by rw [XM,hx'];rfl);have c1:F3.cell (Addr.add (Addr.mk bw 0 none) 1)=some (vi j):=by rw [av];exact h.ld1 rfl
  refine ⟨_,rfl,_,by rw [av];exact h.ld1 rfl,_,h.ld1 rfl,_,c1,a,a1,a2,a3,wB x k,a4,?_⟩;have hos:os.len=(out++bQ x.size++(bs x).take k).length:=by have:=(bj.rd (h.ownAt (i:=0) rfl).1).len;rw [XH,XS] at this;exact this.symm
  have htk:((bs x).take k).length=k:=by rw [XL,aX];omega
  rw [N3,htk] at hos;dsimp only;rw [b2];refine h.push0 D4 (c:= #[vB (wB x k).toNat]) rfl (by simp [ai]) (by omega) λs3 G3 F4 l3 h hl3=> ?_;have lG3:=aa lG l3;obtain ⟨a',a1',_,_,a4'⟩:=(K.rd.le (aa lG3 h.le)).at1 (i:=j) (v:=vi (wB x k)) (by rw [XM,hx'];rfl);rw [a1] at a1';obtain rfl:=X2 a1';refine ⟨a4',by rw [av];exact h.ld1 rfl,h.ld1 rfl,?_⟩;rw [av];refine h.set1 (w':= #[ls.v,vi j,s3.v]) (by show 2<3;decide) rfl λF5 h=>⟨_,by rw [av];exact h.ld1 rfl,?_⟩;dsimp only;rw [av,aE hjl (by omega)];refine h.set1 (w':= #[ls.v,vi ((j+1:Nat):Int),s3.v]) (by show 1<3;decide) rfl λF6 h=> ?_;rw [aE hlt (by omega)];refine next _ hlt ⟨G3,s3,j+1,lG3,?_,hjl,?_⟩
  ·have:=bP hx';rw [hd] at this;exact (List.cons.inj this).2.symm
  ·rw [aK b1,<- Xz,XP];exact h
 ·have e:k=x.size:=by omega
  subst e;rw [List.drop_eq_nil_of_le (by rw [XH,Ym];exact XA _),XX,XK (by rw [aX];exact XA _)] at h;exact ⟨rfl,h⟩
theorem yg {α:Type} {xs:List α} {w:α->Φ} {f:α->Δ} (B:(Ω)->Ω) (h:Ws G0 ls L bw F (xs.flatMap w++rest) out) (hxl:xs.length<9223372036854775808) (hl:(out++xs.flatMap f).length<=400000000000)
  (step:∀(k:Nat) F' N,(k=0->Ws G0 ls L bw F' rest (out++xs.flatMap f))->(0<k->∃x r o,x∈xs/\Ws G0 ls L bw F' (w x++r) o/\(o++f x).length<=400000000000/\∀F'',Ws G0 ls L bw F'' r (o++f x)->N (i64.wrap ((k:Int) - 1)) F'')->B N (k:Int) F'):
  ∃(I:Nat->Ω) (m:Nat),I m (xs.length:Int) F/\∀m i F',I m i F'->B (λy F=>∃m',m'<m/\I m' y F) i F':=by
 refine ⟨λm i F'=>∃k:Nat,i=(k:Int)/\m=k/\k<=xs.length/\Ws G0 ls L bw F' ((xs.drop (xs.length - k)).flatMap w++rest) (out++(xs.take (xs.length - k)).flatMap f),xs.length,⟨xs.length,rfl,rfl,XA _,by simpa using h⟩,?_⟩;rintro m i F' ⟨k,rfl,hm,hk,h⟩;refine step k F' _ (λe=> ?_) (λhp=> ?_)
 ·subst e;rw [Nat.sub_zero,Ys,XF] at h;exact h
 ·obtain ⟨x,hx⟩:∃x,xs[xs.length - k]? =some x:=⟨_,N4 (by omega)⟩;rw [bP hx,XT,Xz] at h;have e:out++(xs.take (xs.length - k)).flatMap f++f x=out++(xs.take (xs.length - k+1)).flatMap f:=by rw [aK hx,XU,Yn,Xz]
  refine ⟨x,_,_,XG hx,h,?_,λF'' h=>⟨k - 1,by omega,k - 1,?_,rfl,by omega,?_⟩⟩
  ·rw [e];refine X1 ?_ hl;have:xs.flatMap f=(xs.take (xs.length - k+1)).flatMap f++(xs.drop (xs.length - k+1)).flatMap f:=by rw [<- XU,X9]
   rw [this];simp only [N3];omega
  ·rw [aH (by omega) (by omega)];omega
  ·rw [show xs.length - (k - 1)=xs.length - k+1 by omega];rw [e] at h;exact h
theorem yh (K:Wl G0 ls L) {xs:List ByteArray} {n:Int} (h:Ws G0 ls L bw F ((xs.length:Int)::xs.flatMap cx++rest) out) (hx:pL pS xs) (hl:(out++eL eS xs).length<=400000000000):
  ae prog 46 #[wp bw,vi n] F λr F'=>r=.tuple #[]/\Ws G0 ls L bw F' rest (out++eL eS xs):=by
 have hk:xs.length<9223372036854775808:=hx.1;unfold eL at hl ⊢;rw [<- Xz] at hl ⊢;refine Xe ?_;unfold Un;rw [XY] at h;refine (dO K h (by omega) (by omega) (by rw [N3] at hl;exact X1 (Nat.le_add_right _ _) hl)).mono ?_;rintro _ F2 ⟨rfl,h⟩;have h:Ws G0 ls L bw F2 (xs.flatMap cx++rest) (out++bQ xs.length):=h;refine ⟨_,rfl,?_⟩;refine yg (f:=eS) (Az · (some (Addr.mk bw 0 none)) _) h hk hl λk F3 N h0 h1=> ?_;unfold Az;refine ⟨λhp=> ?_,λhn=>⟨rfl,h0 (by omega)⟩⟩;obtain ⟨x,r,o,hxm,h,hb,next⟩:=h1 (by omega);refine (sI K h (hx.2 x hxm) hb).mono ?_;rintro _ F4 ⟨rfl,h⟩;exact ⟨rfl,next _ h⟩
end
section
variable {G0 F:PH} {ls:Sl} {L rest:Φ} {bw:Nat} {out:Δ} {g:Gr} {F0:PH}
abbrev RcE (F:PH) (g:Gr):VR:=λr F'=>(∃s:Sl,r=.tuple #[s.v,vi 0]/\RdS F' s 1 ((eGr g).map vB))/\F.le F'
theorem Ws.le (h:Ws G0 ls L bw F rest out):G0.le F:=by obtain ⟨G,os,k,lG,_,_,h⟩:=h;exact aa lG h.le
theorem PS (l0:F0.le G0) (h:Ws G0 ls L bw F [] (eGr g)):Ah bw (RcE F0 g) F:=by obtain ⟨G,os,k,lG,_,_,h⟩:=h;unfold Ah;exact ⟨_,h.ld1 rfl,⟨os,rfl,bj.rd (h.ownAt (i:=0) rfl).1⟩,aa l0 (aa lG h.le)⟩
theorem PT (K:Wl G0 ls L) (l0:F0.le G0) (hp:pL pFi g.fils) {o:Δ} (ho:o++eL eFi g.fils=eGr g) (hl:(eGr g).length<=400000000000) (h:Ws G0 ls L bw F ((g.fils.length:Int)::g.fils.flatMap wFi++[]) o):Aj bw (RcE F0 g) F:=by
 have hk:g.fils.length<9223372036854775808:=hp.1;rw [<- ho] at hl;unfold eL at hl ho;rw [<- Xz] at hl ho;unfold Aj;rw [XY] at h;refine (dO K h (by omega) (by omega) (by rw [N3] at hl;exact X1 (Nat.le_add_right _ _) hl)).mono ?_;rintro _ F2 ⟨rfl,h⟩;have h:Ws G0 ls L bw F2 (g.fils.flatMap wFi++[]) (o++bQ g.fils.length):=h;refine ⟨_,rfl,?_⟩;refine yg (f:=eFi) (Ai · bw _) h hk hl λk F3 N h0 h1=> ?_;unfold Ai;refine ⟨λhp'=> ?_,λhn=> ?_⟩
 ·obtain ⟨x,r,o2,hxm,h,hb,next⟩:=h1 (by omega);obtain ⟨p1,p2,p3,p4,p5,p6,p7,p8⟩:=hp.2 x hxm;have e:o2++eFi x=o2++[x.k,x.par,x.pos,x.ch,x.left,x.tok].flatMap eI++eL eI x.toks++eD x.cond:=by unfold eFi;simp [Xz]
  have ew:wFi x++r=[x.k,x.par,x.pos,x.ch,x.left,x.tok]++([(x.toks.length:Int)]++x.toks.flatMap (λy=>[y])++(gZ x.cond++r)):=by rw [show x.toks.flatMap (λy=>[y])=x.toks by simp];unfold wFi jx;simp [Xz]
  rw [e] at hb next;rw [ew] at h;have hb2:=hb;rw [N3,N3] at hb2;refine (Db K h (λy hy=> ?_) (by omega)).mono ?_
  ·have hy:y=x.k\/y=x.par\/y=x.pos\/y=x.ch\/y=x.left\/y=x.tok:=by simpa using hy
   rcases hy with rfl|rfl|rfl|rfl|rfl|rfl
   ·exact p1.nn
   ·exact p2.nn
   ·exact p3.nn
   ·exact p4.nn
   ·exact p5.nn
   ·exact p6.nn
  rintro _ F4 ⟨rfl,h⟩;refine ⟨rfl,?_⟩;refine (mL K (m:=1) (f:=eI) h (λy=>by simp) (λ_=>rfl) p7.1 (λy hy z hz=>by rw [XC.1 hz];exact (p7.2 y hy).nn) (by rw [N3];omega)).mono ?_;rintro _ F5 ⟨rfl,h⟩;refine ⟨rfl,?_⟩;refine (js K h p8 hb).mono ?_;rintro _ F6 ⟨rfl,h⟩;exact ⟨rfl,next _ h⟩
 ·have:=h0 (by omega);rw [ho] at this;exact PS l0 this
theorem PU (K:Wl G0 ls L) (l0:F0.le G0) (hp:pGr g) {o:Δ} (ho:o++(eI g.start++eL eLv g.lvs++eL eFi g.fils)=eGr g) (hl:(eGr g).length<=400000000000) (h:Ws G0 ls L bw F (g.start::((g.lvs.length:Int)::g.lvs.flatMap wLv++((g.fils.length:Int)::g.fils.flatMap wFi++[]))) o):Al bw (RcE F0 g) F:=by
 obtain ⟨_,_,_,_,_,hs,hv,hf⟩:=hp;have hk:g.lvs.length<9223372036854775808:=hv.1;have hl0:=hl;have ho':o++eI g.start++bQ g.lvs.length++g.lvs.flatMap eLv++eL eFi g.fils=eGr g:=by rw [<- ho];unfold eL;simp only [Xz]
 rw [<- ho'] at hl;simp only [N3] at hl;unfold Al;refine (dO K h hs.nn.1 hs.nn.2 (by rw [N3];omega)).mono ?_;rintro _ F2 ⟨rfl,h⟩;rw [XY] at h;refine ⟨_,rfl,?_⟩;refine (dO K h (by omega) (by omega) (by show (o++eI g.start++bQ g.lvs.length).length<=_;simp only [N3];omega)).mono ?_;rintro _ F3 ⟨rfl,h⟩;have h:Ws G0 ls L bw F3 (g.lvs.flatMap wLv++((g.fils.length:Int)::g.fils.flatMap wFi++[])) (o++eI g.start++bQ g.lvs.length):=h;refine ⟨_,rfl,?_⟩;refine yg (f:=eLv) (Ak · bw _) h hk (by simp only [N3];omega) λk F3 N h0 h1=> ?_;unfold Ak;refine ⟨λhp'=> ?_,λhn=> ?_⟩
 ·obtain ⟨x,r,o2,hxm,h,hb,next⟩:=h1 (by omega);obtain ⟨p1,p2,p3⟩:=hv.2 x hxm;have e:o2++eLv x=o2++eL eI x.ps++eI x.assoc++eD x.cond:=by unfold eLv;simp only [Xz]
  have ew:wLv x++r=[(x.ps.length:Int)]++x.ps.flatMap (λy=>[y])++(x.assoc::(gZ x.cond++r)):=by rw [show x.ps.flatMap (λy=>[y])=x.ps by simp];unfold wLv jx;simp [Xz]
  rw [e] at hb next;rw [ew] at h;have hb2:=hb;simp only [N3] at hb2;refine (mL K (m:=1) (f:=eI) h (λy=>by simp) (λ_=>rfl) p1.1 (λy hy z hz=>by rw [XC.1 hz];exact (p1.2 y hy).nn) (by simp only [N3];omega)).mono ?_;rintro _ F5 ⟨rfl,h⟩;refine ⟨rfl,?_⟩;refine (dO K h p2.nn.1 p2.nn.2 (by simp only [N3];omega)).mono ?_;rintro _ F6 ⟨rfl,h⟩;refine ⟨_,rfl,?_⟩;refine (js K h p3 hb).mono ?_;rintro _ F7 ⟨rfl,h⟩;exact ⟨rfl,next _ h⟩
 ·exact PT K l0 hf ho' hl0 (h0 (by omega))
theorem PV (K:Wl G0 ls L) (l0:F0.le G0) (hp:pGr g) {o:Δ} (ho:o++(eL eS g.nons++eL ePr g.prods++eI g.start++eL eLv g.lvs++eL eFi g.fils)=eGr g) (hl:(eGr g).length<=400000000000)
  (h:Ws G0 ls L bw F ((g.nons.length:Int)::g.nons.flatMap cx++((g.prods.length:Int)::(g.prods.flatMap wPr++(g.start::((g.lvs.length:Int)::g.lvs.flatMap wLv++((g.fils.length:Int)::g.fils.flatMap wFi++[])))))) o):Ao bw (RcE F0 g) F:=by
 have hp0:=hp;obtain ⟨_,_,_,hn,hp,_,_,_⟩:=hp;have hk:g.prods.length<9223372036854775808:=hp.1;have hl0:=hl;have ho':o++eL eS g.nons++bQ g.prods.length++g.prods.flatMap ePr++(eI g.start++eL eLv g.lvs++eL eFi g.fils)=eGr g:=by rw [<- ho];unfold eL;simp only [Xz]
 rw [<- ho'] at hl;simp only [N3] at hl;unfold Ao;refine (yh K h hn (by simp only [N3];omega)).mono ?_;rintro _ F2 ⟨rfl,h⟩;refine ⟨rfl,?_⟩;refine (dO K h (by omega) (by omega) (by show (o++eL eS g.nons++bQ g.prods.length).length<=_;simp only [N3];omega)).mono ?_;rintro _ F3 ⟨rfl,h⟩;have h:Ws G0 ls L bw F3 _ (o++eL eS g.nons++bQ g.prods.length):=h;refine ⟨_,rfl,?_⟩;refine yg (f:=ePr) (An · bw _) h hk (by simp only [N3];omega) λk F3 N h0 h1=> ?_;unfold An;refine ⟨λhp'=> ?_,λhn=> ?_⟩
 ·obtain ⟨x,r,o2,hxm,h,hb,next⟩:=h1 (by omega);obtain ⟨p1,p2,p3,p4,_,p6,p7,_,p8,p9,pa,pb⟩:=hp.2 x hxm;have hr:i64.wrap (x.rank+1)=x.rank+1:=aH (by have:=p6.1;omega) (by have:=p6.nn.2;omega);have e:o2++ePr x=o2++eS x.name++eI x.left++eL eSy x.right++eD x.cond++[wF x.brk,x.rank+1].flatMap eI++eL eCn x.lay++[wF x.sco.o,x.sco.d,x.sco.k,x.sco.u,x.sco.a].flatMap eI:=by unfold ePr yQ;simp [Xz,Dc]
  have ew:wPr x++r=cx x.name++(x.left::([(x.right.length:Int)]++x.right.flatMap wSy++(gZ x.cond++([wF x.brk,x.rank+1]++([(x.lay.length:Int)]++x.lay.flatMap wCn++([wF x.sco.o,x.sco.d,x.sco.k,x.sco.u,x.sco.a]++r)))))):=by unfold wPr;rw [hr];simp [Xz]
  have hfl:∀b:Bool,0<=wF b/\wF b<9223372036854775808:=λb=>by cases b<;>decide
  rw [e] at hb next;rw [ew] at h;have hb2:=hb;simp only [N3] at hb2;refine (sI K h p1 (by simp only [N3];omega)).mono ?_;rintro _ F5 ⟨rfl,h⟩;refine ⟨rfl,?_⟩;refine (dO K h p2.nn.1 p2.nn.2 (by simp only [N3];omega)).mono ?_;rintro _ F6 ⟨rfl,h⟩;refine ⟨_,rfl,?_⟩;refine (mL K (m:=2) (f:=eSy) h Vl (λ_=>rfl) p3.1 (λy hy z hz=> ?_) (by simp only [N3];omega)).mono ?_
  ·have hz:z=wF y.t\/z=y.i:=by simpa [wSy] using hz
   rcases hz with rfl|rfl
   ·exact hfl _
   ·exact (p3.2 y hy).2.nn
  rintro _ F7 ⟨rfl,h⟩;refine ⟨rfl,?_⟩;refine (js K h p4 (by simp only [N3];omega)).mono ?_;rintro _ F8 ⟨rfl,h⟩;refine ⟨rfl,?_⟩;refine (Db K h (λz hz=> ?_) (by simp only [N3];omega)).mono ?_
  ·have hz:z=wF x.brk\/z=x.rank+1:=by simpa using hz
   rcases hz with rfl|rfl
   ·exact hfl _
   ·exact p6.nn
  rintro _ F9 ⟨rfl,h⟩;refine ⟨rfl,?_⟩;refine (mL K (m:=3) (f:=eCn) h Vm (λ_=>rfl) p7.1 (λy hy z hz=> ?_) (by simp only [N3];omega)).mono ?_
  ·have hz:z=y.k\/z=y.a\/z=y.b:=by simpa [wCn] using hz
   obtain ⟨q1,q2,q3⟩:=p7.2 y hy;rcases hz with rfl|rfl|rfl
   ·exact q1.nn
   ·exact q2.nn
   ·exact q3.nn
  rintro _ Fa ⟨rfl,h⟩;refine ⟨rfl,?_⟩;refine (Db K h (λz hz=> ?_) hb).mono ?_
  ·have hz:z=wF x.sco.o\/z=x.sco.d\/z=x.sco.k\/z=x.sco.u\/z=x.sco.a:=by simpa using hz
   rcases hz with rfl|rfl|rfl|rfl|rfl
   ·exact hfl _
   ·exact p8.nn
   ·exact p9.nn
   ·exact pa.nn
   ·exact pb.nn
  rintro _ Fb ⟨rfl,h⟩;exact ⟨rfl,next _ h⟩
 ·exact PU K l0 hp0 ho' hl0 (h0 (by omega))
end
theorem wG {F:PH} {v:Γ} {g:Gr} (hg:GV F v g) (hz:Sml g) (hn:bW g=0->pGr g/\(eGr g).length<=400000000000/\(wGr g).length<=400000000000):
  ae prog 15 #[.agg v] F λr F'=>(∃s:Sl,r=.tuple #[s.v,vi (bW g)]/\RdS F' s 1 ((if bW g=0 then eGr g else []).map vB))/\F.le F':=by
 refine W3 ?_;unfold Ub;refine fresh λb1 F1 l1 q1 _=>⟨_,hg.size,aj q1,?_⟩;refine (og (hg.le l1) hz).mono ?_;rintro _ F2 ⟨rfl,l2⟩;have l12:=aa l1 l2;refine ⟨_,rfl,λhb=>⟨⟨Sl.nil,rfl,by rw [if_neg hb];exact RdS.nil _ _⟩,l12⟩,λhb=> ?_⟩;have hb:bW g=0:=Classical.not_not.1 hb;obtain ⟨hp,hl,hw⟩:=hn hb;rw [hb,if_pos rfl];refine ⟨_,hg.size,aj (l2 _ _ q1),?_⟩;refine (jt (hg.le l12) hw).mono ?_;rintro _ F3 ⟨ls,rfl,hr,l3⟩;have l13:=aa l12 l3;have q3:=l3 _ _ (l2 _ _ q1);refine ⟨_,rfl,?_⟩;have K:Wl F3 ls (wGr g):=⟨hr,hw⟩;refine (St.start F3).new λbw F4 h=> ?_;replace h:=h.nilOwn 5 1;have ew:wGr g=(g.conds.length:Int)::g.conds.flatMap cx++(gZ g.fam++((g.toks.length:Int)::(g.toks.flatMap kL++((g.nons.length:Int)::g.nons.flatMap cx++((g.prods.length:Int)::(g.prods.flatMap wPr++(g.start::((g.lvs.length:Int)::g.lvs.flatMap wLv++((g.fils.length:Int)::g.fils.flatMap wFi++[]))))))))):=by unfold wGr;simp [Xz]
 have hW:Ws F3 ls (wGr g) bw F4 _ []:=⟨F3,Sl.nil,0,am _,ew,Nat.zero_le _,h⟩;have l4:F3.le F4:=h.le;clear h;have hk:g.toks.length<9223372036854775808:=hp.2.2.1.1;have ho':[]++eL eS g.conds++eD g.fam++bQ g.toks.length++g.toks.flatMap eTk++(eL eS g.nons++eL ePr g.prods++eI g.start++eL eLv g.lvs++eL eFi g.fils)=eGr g:=by unfold eGr eL;simp [Xz]
 have hl2:=hl;rw [<- ho'] at hl2;simp only [N3] at hl2;obtain ⟨hc,hf,ht,_⟩:=id hp;obtain ⟨c,n,t,s,p,l,f,rfl,hs⟩:=hg;refine ⟨_,ld (l4 _ _ q3) rfl,?_⟩;refine (yh K hW hc (by simp only [N3];omega)).mono ?_;rintro _ F5 ⟨rfl,h⟩;refine ⟨rfl,?_⟩;refine (js K h hf (by simp only [N3];omega)).mono ?_;rintro _ F6 ⟨rfl,h⟩;refine ⟨rfl,?_⟩;refine (dO K h (by omega) (by omega) (by show (([]:Δ)++eL eS g.conds++eD g.fam++bQ g.toks.length).length<=_;simp only [N3];omega)).mono ?_;rintro _ F7 ⟨rfl,h⟩;have h:Ws F3 ls (wGr g) bw F7 _ ([]++eL eS g.conds++eD g.fam++bQ g.toks.length):=h;refine ⟨_,rfl,?_⟩;refine yg (f:=eTk) (Aq · bw _) h hk (by simp only [N3];omega) λk F8 N h0 h1=> ?_;unfold Aq;refine ⟨λhp'=> ?_,λhn'=> ?_⟩
 ·obtain ⟨x,r,o2,hxm,h,hb,next⟩:=h1 (by omega);obtain ⟨p1,p2,p3,p4,p5,p6⟩:=ht.2 x hxm;have e:o2++eTk x=o2++eS x.name++eI x.cls++eS x.lit++eL eNd x.pat++eS x.smp++eD x.cond:=by unfold eTk;simp only [Xz]
  have ew:kL x++r=cx x.name++(x.cls::(cx x.lit++([(x.pat.length:Int)]++x.pat.flatMap wNd++(cx x.smp++(gZ x.cond++r))))):=by unfold kL;simp [Xz]
  rw [e] at hb next;rw [ew] at h;have hb2:=hb;simp only [N3] at hb2;refine (sI K h p1 (by simp only [N3];omega)).mono ?_;rintro _ Fa ⟨rfl,h⟩;refine ⟨rfl,?_⟩;refine (dO K h p2.nn.1 p2.nn.2 (by simp only [N3];omega)).mono ?_;rintro _ Fb ⟨rfl,h⟩;refine ⟨_,rfl,?_⟩;refine (sI K h p3 (by simp only [N3];omega)).mono ?_;rintro _ Fc ⟨rfl,h⟩;refine ⟨rfl,?_⟩;refine (mL K (m:=5) (f:=eNd) h Vk (λ_=>rfl) p4.1 (λy hy z hz=> ?_) (by simp only [N3];omega)).mono ?_
  ·have hz:z=y.k\/z=y.lo\/z=y.hi\/z=y.a\/z=y.b:=by simpa [wNd] using hz
   obtain ⟨q1,q2,q3,q4,q5⟩:=p4.2 y hy;rcases hz with rfl|rfl|rfl|rfl|rfl
   ·exact q1.nn
   ·exact q2.nn
   ·exact q3.nn
   ·exact q4.nn
   ·exact q5.nn
  rintro _ Fd ⟨rfl,h⟩;refine ⟨rfl,?_⟩;refine (sI K h p5 (by simp only [N3];omega)).mono ?_;rintro _ Fe ⟨rfl,h⟩;refine ⟨rfl,?_⟩;refine (js K h p6 hb).mono ?_;rintro _ Ff ⟨rfl,h⟩;exact ⟨rfl,next _ h⟩
 ·exact PV K l13 hp ho' hl (h0 (by omega))
section
variable {F G:PH}
theorem wH {F1:PH} {g:Gr} {w:Γ} {s:Sl} {B:Δ} {b8:Nat} (hF:F.le G) (hT:Tab G) (hw:GV G w g) (hg:Ti 51 g) (q:F1 b8=some (.cells w 39)) (hl:G.le F1)
  (hs:RdS G s 1 (B.map vB)) (hb:∀n∈B,n<256):wX s true (some (Addr.mk b8 0 none)) (RT F) F1:=by
 have hlen:s.len=B.length:=by have:=hs.len;rw [XH] at this;omega
 unfold wX;refine ⟨_,rfl,w,hw.size,aj q,?_⟩
 refine (nT (hT.le hl) (hw.le hl) hg.sz (hg.sm (by decide)) λhk=>by
  obtain ⟨_,h2,h3⟩:=IL hg hk
  exact ⟨h2,by omega⟩).mono ?_
 rintro _ F2 ⟨⟨s1,rfl,h1⟩,l2⟩;refine ⟨_,_,rfl,w,hw.size,aj (l2 _ _ q),?_⟩;have k2:=aa hl l2
 refine (wG (hw.le k2) (hg.sml (by decide)) λhk=>by
  obtain ⟨h2,_,h3⟩:=IL hg hk
  exact ⟨h2,by omega,KR hg (by decide)⟩).mono ?_
 rintro _ F3 ⟨⟨s2,rfl,h2⟩,l3⟩;have k3:=aa k2 l3;refine ⟨_,_,rfl,_,g0 (h1.le l3),_,g0 h2,?_⟩;rw [gq,decide_eq_true rfl];refine ⟨λhc=>(by cases hc),λ_=>⟨λhc=>absurd rfl hc,λ_=>⟨λ_=>⟨rfl,aa hF k3⟩,λh5=> ?_⟩⟩⟩;have hB:B.length<=5000:=by omega
 have hlg:∀g,dGr B=some (g,[])->(eGr g).length<=5000:=λg hd=>by have:=(Xw.rd B g [] hb hd).1;rw [this,N3] at hB;omega
 have hsz:∀g,dGr B=some (g,[])->Sml g:=λg hd=>KX (by have:=hlg g hd;omega);refine (yy (hT.le k3) ⟨hs.le k3,hb,by omega⟩ λg hd=>(hsz g hd).z).mono ?_;rintro _ F4 ⟨⟨w4,rfl,hw4⟩,l4⟩;refine ⟨_,_,rfl,?_⟩;refine yR hw4.st (λb13 F5 l5 q5=> ?_) rfl hw4.size;have k5:=aa k3 (aa l4 l5);refine (wK (F:=F5) ⟨hs.le k5,hb,by omega⟩ hsz).mono ?_;rintro _ F6 ⟨⟨w6,rfl,hw6⟩,l6⟩;refine ⟨_,_,rfl,?_⟩;refine yR hw6.st (λb15 F7 l7 q7=> ?_) rfl hw6.size;have l67:=aa l6 l7;refine ⟨w4,hw4.size,aj (l67 _ _ q5),w6,hw6.size,aj q7,?_⟩;have hl:(wGr (iF B).1).length<=400000000000:=by
  unfold iF;cases hd:dGr B with
  |none=>show (wGr gr0).length<=_;decide
  |some q=>
   obtain ⟨g',r⟩:=q;cases r with
   |nil=>
    dsimp only;split
    ·have:=P7 g';have:=hlg g' hd;show (wGr g').length<=_;omega
    ·show (wGr gr0).length<=_;decide
   |cons x r=>show (wGr gr0).length<=_;decide
 refine (Ey (hw4.le (aa l5 l67)) (hw6.le l7) hl).mono ?_;rintro _ F8 ⟨rfl,l8⟩;exact ⟨_,rfl,λ_=>⟨λ_=>⟨rfl,aa hF (aa k5 (aa l67 l8))⟩,λhc=>absurd rfl hc⟩,λhc=>(by cases hc)⟩
theorem Ex {v:Γ} {x:Rw} {how a:Nat} {b:Int} {s:Sl} {B:Δ} (hT:Tab F) (hx:Dx F v x) (hh:how<256) (ha:a<256) (hs:RdS F s 1 (B.map vB)) (hb:∀n∈B,n<256):
  ae prog 3 #[.agg v,.agg #[.int .u8 (how:Int),.int .u8 (a:Int),vi b],s.v] F (RT F):=by
 have hv5:v.size=5:=by obtain ⟨⟨_,_,_,rfl,_⟩,_,_⟩:=hx;rfl
 obtain ⟨mg,bd⟩:=Jp x;have t50:=KU mg bd;have tb:=KT t50 (by rw [bd.t];decide) (how % 16) a b;refine cQ3 ?_;unfold bQ3;refine fresh λb3 F1 l1 q3 _=>fresh λb4 F2 l2 q4 _=> ?_;have l12:=aa l1 l2;refine (EL (hT.le l12)).mono ?_;rintro _ F3 ⟨rfl,l3⟩;have l13:=aa l12 l3;have r4:=aj (l3 _ _ q4);refine ⟨_,rfl,v,hv5,aj (l3 _ _ (l2 _ _ q3)),_,rfl,r4,⟨?_,?_⟩⟩
 ·refine (nP (hx.le l13)).mono ?_;rintro _ F4 ⟨⟨w,rfl,hw⟩,l4⟩;refine ⟨_,rfl,i7 l4 r4,⟨?_,?_⟩⟩
  ·refine (nO hw bd (t50.sm (by decide)) hh ha).mono ?_;rintro _ F5 ⟨⟨u,rfl,hu⟩,l5⟩;have l15:=aa l13 (aa l4 l5);refine ⟨_,rfl,?_⟩;refine yR hu.st (λb8 F6 l6 q6=> ?_) rfl hu.size;exact wH (aa l15 l6) (hT.le (aa l15 l6)) (hu.le l6) tb q6 (am _) (hs.le (aa l15 l6)) hb
  ·refine (St.start F4).new λb8 F5 h=> ?_;refine h.run (nO hw bd (t50.sm (by decide)) hh ha) λ_ G6 F6 hr l6 h=> ?_;obtain ⟨u,rfl,hu⟩:=hr;have l16:=aa l13 (aa l4 l6);refine ⟨_,rfl,?_⟩;refine h.put0 (w':=u) hu.size rfl hu.st λF7 h=> ?_;exact wH l16 (hT.le l16) hu tb (h.ptAt (i:=0) rfl) h.le (hs.le l16) hb
 ·refine (St.start F3).new λb8 F4 h=> ?_;refine h.run (nP (hx.le l13)) λ_ G5 F5 hr l5 h=> ?_;obtain ⟨w,rfl,hw⟩:=hr;refine ⟨_,rfl,i7 (aa l5 h.le) r4,?_⟩;refine h.run (nO hw bd (t50.sm (by decide)) hh ha) λ_ G6 F6 hr l6 h=> ?_;obtain ⟨u,rfl,hu⟩:=hr;have l16:=aa l13 (aa l5 l6);refine ⟨_,rfl,?_⟩;refine h.put0 (w':=u) hu.size rfl hu.st λF7 h=> ?_;exact wH l16 (hT.le l16) hu tb (h.ptAt (i:=0) rfl) h.le (hs.le l16) hb
end
end Go.Proofs.YtenpmjhnhepfdaaGreatDoor

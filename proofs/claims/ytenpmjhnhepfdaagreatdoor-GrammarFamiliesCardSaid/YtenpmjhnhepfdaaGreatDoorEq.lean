/-
  The diagrams: Count, whole.
-/
import Derived.Test.YtenpmjhnhepfdaaGreatDoorEn
namespace Go.Proofs.YtenpmjhnhepfdaaGreatDoor
open Go Go.Proofs.Tryz
set_option maxRecDepth 10000
theorem j5 {l:List Nat} {k:Nat} (h:k<l.length):lv (l.take (k+1))=lv (l.take k)+4294967296 ^ k*l[k]:=by
 rw [List.take_succ_eq_append_getElem h,iR,List.length_take,Nat.min_eq_left (by omega)]
 simp [lv]
theorem LH (m:Nat):IntKind.u32.wrap (m:Int)=((m % 4294967296:Nat):Int):=by
 unfold IntKind.wrap
 simp only [IntKind.bits,IntKind.signed,Bool.false_and,Bool.false_eq_true,if_false]
 omega
theorem Co {R:List Nat} {k c x y d:Nat} (hR:R.length=k) {p q:Nat} (h:lv R+c*4294967296 ^ k=p+q) (hd:d=c+x+y):
  lv (R++[d % 4294967296])+d / 4294967296*4294967296 ^ (k+1)=(p+4294967296 ^ k*x)+(q+4294967296 ^ k*y):=by
 have e:4294967296 ^ k*(d % 4294967296)+d / 4294967296*(4294967296 ^ k*4294967296)=4294967296 ^ k*d:=by
  have h1:=Nat.mod_add_div d 4294967296
  rw [← h1]
  conv=>rhs;rw [Nat.mul_add]
  rw [h1]
  congr 1
  rw [Nat.mul_comm (d / 4294967296),Nat.mul_assoc]
 have e3:4294967296 ^ k*d=c*4294967296 ^ k+4294967296 ^ k*x+4294967296 ^ k*y:=by
  rw [hd,Nat.mul_add,Nat.mul_add,Nat.mul_comm _ c]
 rw [iR,hR,Nat.pow_succ]
 simp only [lv,Nat.mul_zero,Nat.add_zero]
 omega
section
variable {F:PH} {sx sy:Sl} {lx ly:List Nat}
theorem Cp (hx:RdS F sx 1 (dU lx)) (hy:RdS F sy 1 (dU ly)) (bx:∀x∈lx,x<4294967296) (by_:∀x∈ly,x<4294967296) (hle:ly.length≤lx.length) (hl:lx.length≤1000) {R:Value→PH→Prop}
  (hR:∀s' F',NV F' s' (lv lx+lv ly)→F.le F'→R (.tuple #[s'.v,vi 0]) F'):mE sx sy R F:=by
 have lenx:=hx.ulen
 have leny:=hy.ulen
 unfold mE
 have hw:IntKind.i64.wrap ((sx.len:Int)+1)=((lx.length+1:Nat):Int):=by rw [lenx];exact eW (by omega)
 rw [hw]
 refine bL underlying89 E8 Kk rfl (by omega) (Int.le_refl _) (by omega) (by omega) ?_
 intro g hg
 rw [zc1 _ rfl,Int.toNat_natCast]
 refine ⟨_,rfl,?_⟩
 have l1:=ac (.cells (List.replicate (lx.length+1) (Value.int .u32 0)).toArray 171) hg
 have q1:=an F g (.cells (List.replicate (lx.length+1) (Value.int .u32 0)).toArray 171)
 have hmin:min sx.len (lx.length+1)=lx.length:=by omega
 have body:∀F1:PH,F.le F1→F1 g=some (.cells (dU (lx++[0])).toArray 171)→
   ∃(I1:Nat→Int→Int→PH→Prop) (m1:Nat),I1 m1 (0:Int) (0:Int) F1∧∀m1 carry v_33 F,I1 m1 carry v_33 F→
    sk (fun carry v_33 F=>∃m',m'<m1∧I1 m' carry v_33 F) sx sy ⟨some ⟨g,0,none⟩,lx.length+1,lx.length+1⟩ R carry v_33 F:=by
  intro F1 hF1 hg1
  refine ⟨fun m carry i F'=>∃(k c:Nat) (r:List Nat),i=k∧carry=c∧k≤lx.length∧m=lx.length - k∧r.length=k∧(∀x∈r,x<4294967296)∧c≤1∧lv r+c*4294967296 ^ k=lv (lx.take k)+lv (ly.take k)∧
   F.le F'∧F' g=some (.cells (dU (r++lx.drop k++[0])).toArray 171),lx.length,⟨0,0,[],rfl,rfl,by omega,rfl,rfl,by simp,by omega,by simp [lv],hF1,by simpa using hg1⟩,?_⟩
  rintro m carry i F2 ⟨k,c,r,rfl,rfl,hk,rfl,hr,hrb,hc,hsum,hF2,hg2⟩
  unfold sk
  refine ⟨fun hlt=> ?_,fun hge=> ?_⟩
  ·have hkx:k<lx.length:=by omega
   have hxk:=bx _ (List.getElem_mem hkx)
   have hcell:F2.cell (Addr.add ⟨g,0,none⟩ (Int.toNat (k:Int)*1))=some (.int .u32 (lx[k]:Int)):=by
    simp only [aL]
    rw [am hg2,List.drop_eq_getElem_cons hkx]
    simp [dU,hr,-List.getElem_cons_drop]
   have wx:IntKind.u64.wrap ((c:Int)+IntKind.u64.wrap (lx[k]:Int))=((c+lx[k]:Nat):Int):=by
    rw [cV (x:=(lx[k]:Int)) (by omega) (by omega),cV (by omega) (by omega)];omega
   have rest:∀(y d:Nat),d=c+lx[k]+y→y<4294967296→lv (ly.take (k+1))=lv (ly.take k)+4294967296 ^ k*y→∀{N:Int→Int→PH→Prop},
     (∀F3,(∃(r':List Nat),r'.length=k+1∧(∀x∈r',x<4294967296)∧d / 4294967296≤1∧lv r'+d / 4294967296*4294967296 ^ (k+1)=lv (lx.take (k+1))+lv (ly.take (k+1))∧F.le F3∧
      F3 g=some (.cells (dU (r'++lx.drop (k+1)++[0])).toArray 171))→N ((d / 4294967296:Nat):Int) ((k+1:Nat):Int) F3)→
     mD N sx sy ⟨some ⟨g,0,none⟩,lx.length+1,lx.length+1⟩ k (d:Int) R F2:=by
    intro y d hd hy1 hty N hN
    unfold mD
    have hw2:IntKind.i64.wrap ((k:Int)+1)=((k+1:Nat):Int):=eW (by omega)
    have hdv:Int.fdiv (d:Int) (2 ^ (min (Int.toNat (32:Int)) (IntKind.u64).bits))=((d / 4294967296:Nat):Int):=oX d 32
    rw [hw2,hdv,LH]
    refine ⟨_,rfl,by omega,by simp only;omega,?_⟩
    refine jM (b:=g) (o:=k) (by simp) hg2 (by simp;omega) ?_
    refine hN _ ⟨r++[d % 4294967296],by simp [hr],fun x hx=> ?_,by omega,?_,au hF2 hg,?_⟩
    ·rcases List.mem_append.1 hx with hx|hx
     ·exact hrb x hx
     ·rw [List.mem_singleton.1 hx];exact Nat.mod_lt _ (by decide)
    ·rw [Co hr hsum hd,hty,j5 hkx]
    ·rw [an,List.setIfInBounds_toArray]
     congr 3
     rw [List.drop_eq_getElem_cons hkx]
     simp only [dU,List.map_append,List.map_cons,List.map_nil,List.append_assoc,List.cons_append,List.nil_append]
     rw [List.set_append_right _ _ (by simp [hr])]
     simp [hr]
   have done:∀(d:Nat) (F3:PH),(∃(r':List Nat),r'.length=k+1∧(∀x∈r',x<4294967296)∧d / 4294967296≤1∧lv r'+d / 4294967296*4294967296 ^ (k+1)=lv (lx.take (k+1))+lv (ly.take (k+1))∧F.le F3∧
      F3 g=some (.cells (dU (r'++lx.drop (k+1)++[0])).toArray 171))→∃m',m'<lx.length - k∧∃(k' c':Nat) (r:List Nat),((k+1:Nat):Int)=k'∧((d / 4294967296:Nat):Int)=c'∧k'≤lx.length∧m'=lx.length - k'∧r.length=k'∧(∀x∈r,x<4294967296)∧c'≤1∧
       lv r+c'*4294967296 ^ k'=lv (lx.take k')+lv (ly.take k')∧F.le F3∧F3 g=some (.cells (dU (r++lx.drop k'++[0])).toArray 171):=fun d F3 ⟨r',h1,h2,h3,h4,h5,h6⟩=>
    ⟨lx.length - (k+1),by omega,k+1,d / 4294967296,r',rfl,rfl,by omega,rfl,h1,h2,h3,h4,h5,h6⟩
   refine ⟨_,rfl,by omega,by simp only;omega,_,hcell,fun hky=> ?_,fun hky=> ?_⟩
   ·have hky':k<ly.length:=by omega
    have hyk:=by_ _ (List.getElem_mem hky')
    obtain ⟨a,ha,hca⟩:=(hy.le hF2).u32 (List.getElem?_eq_getElem hky')
    refine ⟨a,ha,by omega,by omega,_,hca,?_⟩
    have wy:IntKind.u64.wrap (((c+lx[k]:Nat):Int)+IntKind.u64.wrap (ly[k]:Int))=((c+lx[k]+ly[k]:Nat):Int):=by
     rw [cV (x:=(ly[k]:Int)) (by omega) (by omega),cV (by omega) (by omega)];omega
    rw [wx,wy]
    exact rest ly[k] _ rfl hyk (j5 hky') (done _)
   ·rw [wx]
    have e:c+lx[k]=c+lx[k]+0:=rfl
    refine rest 0 _ e (by decide) ?_ (done _)
    rw [List.take_of_length_le (by omega),List.take_of_length_le (by omega)]
    simp
  ·obtain rfl:k=lx.length:=by omega
   unfold xT
   rw [lenx]
   refine ⟨_,rfl,by omega,by simp only;omega,?_⟩
   refine jM (b:=g) (o:=lx.length) (by simp) hg2 (by simp [hr]) ?_
   rw [LH,List.setIfInBounds_toArray,Nat.mod_eq_of_lt (by omega)]
   have e:(dU (r++lx.drop lx.length++[0])).set lx.length (Value.int .u32 (c:Int))=dU (r++[c]):=by
    simp only [dU,List.drop_length,List.append_nil,List.map_append,List.map_cons,List.map_nil]
    rw [List.set_append_right _ _ (by simp [hr])]
    simp [hr]
   rw [e]
   have hq:=an F2 g (.cells (dU (r++[c])).toArray 171)
   have hF3:F.le (F2.set g (.cells (dU (r++[c])).toArray 171)):=au hF2 hg
   generalize F2.set g (.cells (dU (r++[c])).toArray 171)=F3 at*
   refine (qU (F:=F3) (l:=r++[c]) (RdS.new hq (List.take_of_length_le (by simp [hr])) (by simp [hr]) (Nat.le_refl _)) (by simp [hr];omega) (fun x hx=> ?_)).mono ?_
   ·rcases List.mem_append.1 hx with hx|hx
    ·exact hrb x hx
    ·rw [List.mem_singleton.1 hx];omega
   rintro _ F4 ⟨s',rfl,hn,rfl⟩
   refine ⟨_,_,rfl,hR s' _ ?_ hF3⟩
   have e2:lv (r++[c])=lv lx+lv ly:=by
    rw [iR,hr]
    simp only [lv,Nat.mul_zero,Nat.add_zero]
    rw [Nat.mul_comm,hsum,List.take_length,List.take_of_length_le hle]
   rw [e2] at hn
   exact hn
 refine zk (d:=⟨some ⟨g,0,none⟩,lx.length+1,lx.length+1⟩) (s:=sx) underlying89 rfl E8 (hx.le l1) (Ei lx) (fun h0=> ?_) (fun hp=> ?_)
 ·simp only [hmin] at h0 ⊢
  refine ⟨_,rfl,body _ l1 ?_⟩
  rw [q1]
  have:lx=[]:=List.eq_nil_of_length_eq_zero (by omega)
  subst this
  rfl
 ·simp only [hmin] at hp ⊢
  refine ⟨g,0,_,171,rfl,q1,by simp,_,rfl,body _ (au l1 hg) ?_⟩
  rw [aP,an]
  congr 2
  have hw:=gg (dU lx) (List.replicate (lx.length+1) (Value.int .u32 0)) 0 (by simp)
  have e:(dU lx).take (lx.length*1)=dU lx:=List.take_of_length_le (by simp)
  rw [e,hw]
  simp [dU,List.replicate_succ']
theorem Cq {a b:Nat} (ha:NV F sx a) (hb:NV F sy b) (la:(lm a).length≤1000) (lb:(lm b).length≤1000):ae prog 104 #[sx.v,sy.v] F fun r F'=>∃s',r=.tuple #[s'.v,vi 0]∧NV F' s' (a+b)∧F.le F':=by
 have lenx:=RdS.ulen ha
 have leny:=RdS.ulen hb
 refine LO ?_
 unfold FX
 refine (jr ha la).mono ?_
 rintro _ F1 ⟨rfl,rfl⟩
 refine ⟨_,rfl,fun h=>(by cases h),fun _=> ?_⟩
 refine (jr hb lb).mono ?_
 rintro _ F1 ⟨rfl,rfl⟩
 refine ⟨_,rfl,fun h=>(by cases h),fun _=>⟨fun h=> ?_,fun h=> ?_⟩⟩
 ·refine Cp hb ha (xV b) (xV a) (by omega) lb fun s' F' h1 h2=>⟨s',rfl,?_,h2⟩
  rw [xW,xW,Nat.add_comm] at h1
  exact h1
 ·refine Cp ha hb (xV a) (xV b) (by omega) la fun s' F' h1 h2=>⟨s',rfl,?_,h2⟩
  rw [xW,xW] at h1
  exact h1
end
end Go.Proofs.YtenpmjhnhepfdaaGreatDoor
namespace Go.Proofs.YtenpmjhnhepfdaaGreatDoor
open Go Go.Proofs.Tryz Tr
set_option maxRecDepth 10000
theorem qT:∀(k n:Nat),n<4294967296 ^ k→(lm n).length≤k
 |0,n,h=>by
  have:n=0:=by simpa using h
  subst this
  rw [cW]
  exact Nat.le_refl _
 |k+1,n,h=>by
  by_cases h0:n=0
  ·subst h0;rw [cW];exact Nat.zero_le _
  ·rw [ie h0,List.length_cons]
   have:=qT k (n / 4294967296) (Nat.div_lt_of_lt_mul (by rw [Nat.pow_succ,Nat.mul_comm] at h;exact h))
   omega
theorem uw {n:Nat} (h:n≤18446744073709551616):(lm n).length≤1000:=by
 have:=qT 3 n (by omega)
 omega
def cv (n:Nat):Tr→Nat
 |leaf b=>if b then 1 else 0
 |node v l h=>cv n l*2 ^ (min n l.top - (v+1))+cv n h*2 ^ (min n h.top - (v+1))
def gr (n:Nat) (t:Tr):Nat:=cv n t*2 ^ (min n t.top)
def bi (n:Nat):Tr→Prop
 |leaf _=>True
 |node v l h=>v<n∧bi n l∧bi n h
theorem xS {n:Nat} (hn:n≤64):∀(t:Tr),t.ok→bi n t→cv n t≤2 ^ (n - min n t.top)
 |leaf b,_,_=>by
  have:n - min n (leaf b).top=0:=by simp only [top];omega
  rw [this]
  cases b<;>simp [cv]
 |node v l h,⟨h0,h1,h2,h3,h4,h5⟩,⟨b0,b1,b2⟩=>by
  have il:=xS hn l h4 b1
  have ih:=xS hn h h5 b2
  have key:∀(x m:Nat),v<m→x≤2 ^ (n - min n m)→x*2 ^ (min n m - (v+1))≤2 ^ (n - (v+1)):=fun x m hm hx=>by
   calc x*2 ^ (min n m - (v+1))≤2 ^ (n - min n m)*2 ^ (min n m - (v+1)):=Nat.mul_le_mul_right _ hx
    _=2 ^ (n - (v+1)):=by rw [← Nat.pow_add];congr 1;omega
  have k1:=key _ _ h1 il
  have k2:=key _ _ h2 ih
  have e:n - min n (node v l h).top=n - (v+1)+1:=by simp only [top];omega
  rw [e,Nat.pow_succ]
  simp only [cv]
  omega
theorem FV {m:Nat} (h:m≤64):2 ^ m≤18446744073709551616:=Nat.pow_le_pow_right (by decide) h
structure CE (E:PH) (b2 b3 b9 b10 g n:Nat) (t:Tr) (len:Nat):Prop where
 c3:E.cell ⟨b3,0,none⟩=some (vi n)
 c2:∃w,E.row ⟨b2,0,none⟩ w∧DV E w (dia t)
 c9:E.cell ⟨b9,0,none⟩=some (Sl.v ⟨some ⟨g,0,none⟩,len,len⟩)
 c10:E.cell ⟨b10,0,none⟩=some (.func (.func 101) #[] #[.pointer (some ⟨b3,0,none⟩),.pointer (some ⟨b2,0,none⟩)])
theorem CE.le {E F:PH} {b2 b3 b9 b10 g n:Nat} {t:Tr} {len:Nat} (h:CE E b2 b3 b9 b10 g n t len) (hl:E.le F):CE F b2 b3 b9 b10 g n t len:=by
 obtain ⟨h1,⟨w,h2,h3⟩,h4,h5⟩:=h
 exact ⟨aq hl h1,⟨w,ig hl h2,h3.le hl⟩,aq hl h4,aq hl h5⟩
structure CS (E F:PH) (g n:Nat) (T:List Tr) (k:Nat) (Ls:List Sl):Prop where
 le:E.le F
 ng:E g=none
 hg:F g=some (.cells (Ls.map Sl.v).toArray 89)
 len:Ls.length=T.length+2
 nv:∀j s,j<k+2→Ls[j]? =some s→NV (bF F g) s (cv n (tr T j))
theorem CS.upto {E F G:PH} {g n:Nat} {T:List Tr} {k:Nat} {Ls:List Sl} (h:CS E F g n T k Ls) (hl:F.le G):CS E G g n T k Ls:=
 ⟨h.le.trans hl,h.ng,hl _ _ h.hg,h.len,fun j s hj hs=>(h.nv j s hj hs).le fun x o hx=>by
  have hne:x≠g:=fun e=>by rw [e,fw] at hx;cases hx
  rw [ca hne] at hx ⊢
  exact hl _ _ hx⟩
theorem LI:aC prog 101=true:=by kernel_rfl
theorem LJ {F:PH} {x:Nat} {o:Obj} {sx sy:Sl} {a b:Nat} (hx:F x=some o) (ha:NV (bF F x) sx a) (hb:NV (bF F x) sy b) (la:a≤18446744073709551616) (lb:b≤18446744073709551616):
  ae prog 104 #[sx.v,sy.v] F fun r F'=>∃s',r=.tuple #[s'.v,vi 0]∧NV (bF F' x) s' (a+b)∧F.le F'∧F' x=some o:=
 (ae.avoid (Cq ha hb (uw la) (uw lb)) hx).mono fun r F' ⟨G,⟨s',hr,hn,lg⟩,lG,q,gx⟩=>
  ⟨s',hr,hn.le (fun y ob hy=>by rw [ca (fun e=>by rw [e,gx] at hy;cases hy)];exact lG _ _ hy),ii lg lG q hx,q⟩
theorem eM {F G:PH} {x:Nat} (h:F.le G):(bF F x).le (bF G x):=fun y o hy=>by
 have hne:y≠x:=fun e=>by rw [e,fw] at hy;cases hy
 rw [ca hne] at hy ⊢
 exact h _ _ hy
section
variable {E F:PH} {b2 b3 b9 b10 g n:Nat} {t:Tr} {k:Nat} {Ls:List Sl}
theorem gu (ht:t.ok) (hlt:(aA t).length≤4096) (hn:n≤64) (he:CE E b2 b3 b9 b10 g n t ((aA t).length+2)) (hs:CS E F g n (aA t) k Ls) {u:Tr} (hu:inn (aA t) u) (hbu:bi n u)
  (hk:num (aA t) u<k+2) {from_:Nat} (hfr:from_≤min n u.top):
  ae prog 103 #[vi (num (aA t) u),vi from_,.pointer (some ⟨b9,0,none⟩),.pointer (some ⟨b10,0,none⟩)] F fun r F'=>
   ∃s',r=.tuple #[s'.v,vi 0]∧NV (bF F' g) s' (cv n u*2 ^ (min n u.top - from_))∧F.le F':=by
 have hT:=bW ht
 have huo:=hT.inn_ok hu
 have hnl:=bY hu
 have hlen:=hs.len
 refine J0 ?_
 unfold EW
 have hlt2:num (aA t) u<Ls.length:=by omega
 have hget:=List.getElem?_eq_getElem hlt2
 have hnv:=hs.nv _ _ hk hget
 rw [eV hT hu] at hnv
 refine ⟨_,rfl,_,aq hs.le he.c9,_,rfl,by omega,by simp only;omega,Ls[num (aA t) u],by simp only [aL];rw [am hs.hg];simp [hget],_,rfl,_,aq hs.le he.c10,_,_,_,rfl,LI,?_⟩
 obtain ⟨w,hw1,hw2⟩:=he.c2
 have hplace:ae prog 101 #[vi (num (aA t) u),.pointer (some ⟨b3,0,none⟩),.pointer (some ⟨b2,0,none⟩)] F fun r F'=>r=vi (min (n:Int) (u.top:Int))∧F.le F':=by
  refine JY ?_
  unfold EU
  refine ⟨_,rfl,_,aq hs.le he.c3,_,rfl,w,hw2.size,ig hs.le hw1,?_⟩
  refine (jk (hw2.le hs.le) (List.prefix_refl _) hu (by show Fit ((brs (aA t)).length+2);rw [aK];omega)).mono ?_
  rintro _ F1 ⟨rfl,l1⟩
  exact ⟨_,rfl,aq l1 (aq hs.le he.c3),rfl,l1⟩
 refine hplace.mono ?_
 rintro _ F1 ⟨rfl,l1⟩
 refine ⟨_,rfl,?_⟩
 have hs1:=hs.upto l1
 have hnv1:=hnv.le (eM (x:=g) l1)
 have hwr:IntKind.i64.wrap (min (n:Int) (u.top:Int) - (from_:Int))=((min n u.top - from_:Nat):Int):=by
  rw [aJ (by omega) (by omega)];omega
 have hcv:=xS hn u huo hbu
 refine ⟨fun m out i F'=>∃q:Nat,i=q∧q≤min n u.top - from_∧m=min n u.top - from_ - q∧NV (bF F' g) out (cv n u*2 ^ q)∧F1.le F',min n u.top - from_,⟨0,rfl,by omega,by omega,by simpa using hnv1,PH.le_rfl⟩,?_⟩
 rintro m out i F2 ⟨q,rfl,hq,rfl,ho,l2⟩
 unfold wY
 rw [hwr]
 refine ⟨fun hlt=> ?_,fun hge=> ?_⟩
 ·have hval:cv n u*2 ^ q≤18446744073709551616:=by
   refine Nat.le_trans (Nat.mul_le_mul_right _ hcv) ?_
   rw [← Nat.pow_add]
   exact FV (by omega)
  refine (LJ (l2 _ _ hs1.hg) ho ho hval hval).mono ?_
  rintro _ F3 ⟨s',rfl,h1,l3,_⟩
  refine ⟨_,_,rfl,fun h=>absurd rfl h,fun _=>⟨min n u.top - from_ - (q+1),by omega,q+1,eW (by omega),by omega,rfl,?_,l2.trans l3⟩⟩
  rw [Nat.pow_succ,← Nat.mul_assoc,Nat.mul_two]
  exact h1
 ·unfold wX
  have hq':q=min n u.top - from_:=by omega
  subst hq'
  exact ⟨_,rfl,ho,l1.trans l2⟩
end
theorem j7 {T:List Tr} (hT:Cl T) {n:Nat} (h:∀x∈T,x.top<n):∀(t:Tr),inn T t→bi n t
 |leaf _,_=>trivial
 |node v l r,ht=>by
  obtain ⟨il,ir⟩:=hT.inn_kids ht
  exact ⟨h _ (bZ ht rfl),j7 hT h l il,j7 hT h r ir⟩
theorem kW {n:Nat}:∀(t:Tr) (S:List Tr),bi n t→∀x∈vis t S,x∈S∨bi n x∧x.top<n
 |leaf _,_,_=>fun x hx=> .inl hx
 |node v l r,S,⟨b0,b1,b2⟩=>by
  unfold vis
  split
  ·exact fun x hx=> .inl hx
  ·intro x hx
   rcases List.mem_append.1 hx with hx|hx
   ·rcases kW r _ b2 x hx with h|h
    ·exact kW l S b1 x h
    ·exact .inr h
   ·rw [List.mem_singleton.1 hx]
    exact .inr ⟨⟨b0,b1,b2⟩,b0⟩
theorem oV {n:Nat} {t:Tr} (h:bi n t):∀x∈aA t,bi n x∧x.top<n:=fun x hx=>by
 rcases kW t [] h x hx with h|h
 ·cases h
 ·exact h
open Classical in
noncomputable def dM (a:Dia) (n:Int):Nat×Int:=
 if chk a≠0 then (0,chk a) else if n<0∨64<n then (0,1) else if bi n.toNat (tre a) then (gr n.toNat (tre a),0) else (0,1)
theorem NV.nil (F:PH):NV F Sl.nil 0:=by unfold NV;rw [cW];exact RdS.nil F 1
theorem LL:bv prog 89=some (.slice none 0 0):=by kernel_rfl
section
variable {F:PH} {v:Array Value} {a:Dia}
theorem vV (ha:DV F v a) (n:Int):ae prog 32 #[.agg v,vi n] F fun r F'=>∃s,r=.tuple #[s.v,vi (dM a n).2]∧NV F' s (dM a n).1∧F.le F':=by
 have ha':=ha
 obtain ⟨s,rfl,hr⟩:=ha
 refine NZ ?_
 unfold JV
 intro b2 hb2
 refine atI ?_
 have l2:=ac (.cells #[s.v,vi a.2] 33) hb2
 have q2:=an F b2 (.cells #[s.v,vi a.2] 33)
 generalize F.set b2 (.cells #[s.v,vi a.2] 33)=F2 at*
 intro b3 hb3
 refine atI ?_
 have lx:=ac (.cells #[vi n] 3) hb3
 have q3:=an F2 b3 (.cells #[vi n] 3)
 replace q2:=lx _ _ q2
 have l3:=l2.trans lx
 clear lx
 generalize F2.set b3 (.cells #[vi n] 3)=F3 at*
 refine ⟨_,rfl,aj q2,?_⟩
 refine (gy (ha'.le l3)).mono ?_
 rintro _ F4 ⟨rfl,lx⟩
 replace q2:=lx _ _ q2
 replace q3:=lx _ _ q3
 have l4:=l3.trans lx
 clear lx
 have err:∀{F':PH} {e:Int},dM a n=(0,e)→F.le F'→∃s,Value.tuple #[Sl.v Sl.nil,vi e]=.tuple #[s.v,vi (dM a n).2]∧NV F' s (dM a n).1∧F.le F':=fun {F' e} h hl=>⟨Sl.nil,by rw [h],by rw [h];exact NV.nil _,hl⟩
 refine ⟨_,rfl,fun h=>err (by unfold dM;rw [if_pos h]) l4,fun h=> ?_⟩
 have h0:chk a=0:=by omega
 refine ⟨n,by rw [am q3];rfl,fun hb=>err (by unfold dM;rw [if_neg h,if_pos (.inl hb)]) l4,fun hb=>⟨n,by rw [am q3];rfl,fun hb2=>err (by unfold dM;rw [if_neg h,if_pos (.inr hb2)]) l4,fun hb2=> ?_⟩⟩
 obtain ⟨ka,ea,la⟩:=Em h0
 have hT:=bW ka
 have hr':RdS F s 3 (aS (brs (aA (tre a)))):=by rw [ea] at hr;exact hr
 have hlen:=hr'.blen
 rw [aK] at hlen
 have hsl:=oZ h0
 have e2:a.2=(num (aA (tre a)) (tre a):Int):=by
  conv=>lhs;rw [ea]
  rfl
 obtain ⟨N,rfl⟩:=Int.eq_ofNat_of_zero_le (by omega:0≤n)
 have hN:N≤64:=by omega
 refine ⟨s,by rw [am q2];rfl,?_⟩
 refine ⟨fun m i F'=>∃k:Nat,i=k∧k≤(aA (tre a)).length∧m=(aA (tre a)).length - k∧F4.le F'∧∀j x,j<k→(aA (tre a))[j]? =some x→x.top<N,(aA (tre a)).length,⟨0,rfl,by omega,rfl,PH.le_rfl,fun j x hj=>by omega⟩,?_⟩
 rintro m i F5 ⟨k,rfl,hk,rfl,l5,hall⟩
 unfold Bm
 refine ⟨fun hlt=> ?_,fun hge=> ?_⟩
 ·have hkT:k<(aA (tre a)).length:=by omega
  obtain ⟨_,vv,lo',hi',hget,_,_,hok,_⟩:=oY hT k hkT
  obtain ⟨p,hp,hrow,_⟩:=rdb (hr'.le (l4.trans l5)) (fa hget)
  refine ⟨p,hp,by omega,hlt,aO (br (aA (tre a)) (node vv lo' hi')),rfl,by simpa using hrow,?_⟩
  intro b8 hb8
  refine atI ?_
  refine stW (an _ _ _) rfl rfl (eE _) ?_
  rw [aP]
  have l8:=l5.trans (ac (.cells (aO (br (aA (tre a)) (node vv lo' hi'))) 103) hb8)
  refine ⟨(vv:Int),by rw [am (an _ _ _)];rfl,(N:Int),by rw [am (l8 _ _ q3)];rfl,fun hbad=>err ?_ (l4.trans l8),fun hgood=> ?_⟩
  ·unfold dM
   rw [if_neg h,if_neg (by omega),if_neg]
   intro hbel
   have:=(oV hbel _ (List.mem_of_getElem? hget)).2
   simp only [Tr.top,Int.toNat_natCast] at this
   omega
  ·refine ⟨(aA (tre a)).length - (k+1),by omega,k+1,eW (by omega),by omega,rfl,l8,fun j x hj hx=> ?_⟩
   by_cases hjk:j<k
   ·exact hall j x hjk hx
   ·obtain rfl:j=k:=by omega
    rw [hget] at hx
    obtain rfl:=Option.some.inj hx
    simp only [Tr.top]
    omega
 ·obtain rfl:k=(aA (tre a)).length:=by omega
  have hbel:bi N (tre a):=j7 hT (fun x hx=>by
   obtain ⟨j,hj,he⟩:=List.mem_iff_getElem.1 hx
   exact hall j x hj (by rw [List.getElem?_eq_getElem hj,he])) _ (bG ka)
  have hcount:dM a (N:Int)=(gr N (tre a),0):=by
   unfold dM
   rw [if_neg h,if_neg (by omega),if_pos (by simpa using hbel)]
   simp
  have q2':=l5 _ _ q2
  have q3':=l5 _ _ q3
  have l5':=l4.trans l5
  clear hall hge hk err
  unfold Bl
  have hw2:IntKind.i64.wrap ((s.len:Int)+2)=(((aA (tre a)).length+2:Nat):Int):=by rw [hlen,aJ (by omega) (by omega)];omega
  refine ⟨s,by rw [am q2'];rfl,?_⟩
  dsimp only
  rw [hw2]
  refine bL underlying164 Ob LL rfl (by omega) (Int.le_refl _) (by omega) (by omega) ?_
  intro g hg
  rw [zc1 _ rfl,Int.toNat_natCast]
  refine ⟨_,rfl,?_⟩
  have e0:(List.replicate ((aA (tre a)).length+2) (Value.slice none 0 0)).toArray=((List.replicate ((aA (tre a)).length+2) Sl.nil).map Sl.v).toArray:=by rw [List.map_replicate];rfl
  rw [e0]
  have fg:F g=none:=aR l5' hg
  have lg:=ac (.cells ((List.replicate ((aA (tre a)).length+2) Sl.nil).map Sl.v).toArray 89) hg
  have qg:=an F5 g (.cells ((List.replicate ((aA (tre a)).length+2) Sl.nil).map Sl.v).toArray 89)
  have n2:b2≠g:=aE hg q2'
  have n3:b3≠g:=aE hg q3'
  generalize F5.set g (.cells ((List.replicate ((aA (tre a)).length+2) Sl.nil).map Sl.v).toArray 89)=F6 at*
  intro b9 hb9
  refine atI ?_
  refine st1 (an _ _ _) (by simp) ?_
  rw [aP,show (#[Value.slice none 0 0].setIfInBounds 0 (Sl.v ⟨some ⟨g,0,none⟩,(aA (tre a)).length+2,(aA (tre a)).length+2⟩):Array Value)= #[Sl.v ⟨some ⟨g,0,none⟩,(aA (tre a)).length+2,(aA (tre a)).length+2⟩] from rfl]
  have n9:g≠b9:=aE hb9 qg
  have lx:=ac (.cells #[Sl.v ⟨some ⟨g,0,none⟩,(aA (tre a)).length+2,(aA (tre a)).length+2⟩] 164) hb9
  have q9:=an F6 b9 (.cells #[Sl.v ⟨some ⟨g,0,none⟩,(aA (tre a)).length+2,(aA (tre a)).length+2⟩] 164)
  replace qg:=lx _ _ qg
  have l9:=lg.trans lx
  clear lx
  generalize F6.set b9 (.cells #[Sl.v ⟨some ⟨g,0,none⟩,(aA (tre a)).length+2,(aA (tre a)).length+2⟩] 164)=F7 at*
  refine ⟨_,by rw [am q9];rfl,?_⟩
  refine (ae.avoid (Ej (F:=bF F7 g) (n:=1) (by omega)) qg).mono ?_
  rintro _ F8 ⟨G,⟨s1,rfl,hn1,lG1⟩,lG,qg8,gG⟩
  have l8:=ii lG1 lG qg8 qg
  have hn1':NV (bF F8 g) s1 1:=hn1.le (fun y ob hy=>by rw [ca (fun e=>by rw [e,gG] at hy;cases hy)];exact lG _ _ hy)
  have q9':=l8 _ _ q9
  refine ⟨_,rfl,by rw [am q9'];rfl,_,rfl,by omega,by simp only;omega,?_⟩
  refine jM (b:=g) (o:=1) (by simp) qg8 (by simp) ?_
  rw [List.setIfInBounds_toArray]
  have e1:((List.replicate ((aA (tre a)).length+2) Sl.nil).map Sl.v).set 1 s1.v=((List.replicate ((aA (tre a)).length+2) Sl.nil).set 1 s1).map Sl.v:=by rw [List.map_set]
  rw [e1]
  generalize hLs:(List.replicate ((aA (tre a)).length+2) Sl.nil).set 1 s1=Ls
  have hLl:Ls.length=(aA (tre a)).length+2:=by rw [← hLs];simp
  have d9:bF (F8.set g (.cells (Ls.map Sl.v).toArray 89)) g=bF F8 g:=by
   funext y
   by_cases hy:y=g
   ·subst hy;rw [fw,fw]
   ·rw [ca hy,ca hy,aw _ _ hy]
  have qg9:=an F8 g (.cells (Ls.map Sl.v).toArray 89)
  have n9':b9≠g:=n9.symm
  have lE8:F5.le F8:=l9.trans l8
  have hE:F5.le (bF F8 g):=dY lE8 hg
  have q2E:(bF F8 g) b2=some (.cells #[s.v,vi a.2] 33):=hE _ _ q2'
  have q3E:(bF F8 g) b3=some (.cells #[vi N] 3):=hE _ _ q3'
  have q9E:(bF F8 g) b9=some (.cells #[Sl.v ⟨some ⟨g,0,none⟩,(aA (tre a)).length+2,(aA (tre a)).length+2⟩] 164):=by rw [ca n9'];exact q9'
  have lE9:(bF F8 g).le (F8.set g (.cells (Ls.map Sl.v).toArray 89)):=au (mG _ _) (fw _ _)
  have gE:(bF F8 g) g=none:=fw _ _
  have lFE:F.le (bF F8 g):=l5'.trans hE
  have hnv0:∀j x,j<0+2→Ls[j]? =some x→NV (bF (F8.set g (.cells (Ls.map Sl.v).toArray 89)) g) x (cv N (tr (aA (tre a)) j)):=fun j x hj hx=>by
   rw [d9]
   match j,hj with
   |0,_=>
    rw [← hLs] at hx
    simp at hx
    subst hx
    exact NV.nil _
   |1,_=>
    rw [← hLs] at hx
    simp at hx
    subst hx
    exact hn1'
  clear hn1' hLs e1
  generalize bF F8 g=E at*
  generalize F8.set g (.cells (Ls.map Sl.v).toArray 89)=F9 at*
  intro b10 hb10
  refine atI ?_
  refine st1 (an _ _ _) (by simp) ?_
  rw [aP,show (#[Value.nilFunc].setIfInBounds 0 (Value.func (.func 101) #[] #[.pointer (some ⟨b3,0,none⟩),.pointer (some ⟨b2,0,none⟩)]):Array Value)= #[Value.func (.func 101) #[] #[.pointer (some ⟨b3,0,none⟩),.pointer (some ⟨b2,0,none⟩)]] from rfl]
  have n10:g≠b10:=aE hb10 qg9
  have E10:E b10=none:=aR lE9 hb10
  have hcs0:CS (E.set b10 (.cells #[Value.func (.func 101) #[] #[.pointer (some ⟨b3,0,none⟩),.pointer (some ⟨b2,0,none⟩)]] 167)) (F9.set b10 (.cells #[Value.func (.func 101) #[] #[.pointer (some ⟨b3,0,none⟩),.pointer (some ⟨b2,0,none⟩)]] 167)) g N (aA (tre a)) 0 Ls:=by
   refine ⟨fun x ob hx=> ?_,by rw [aw _ _ n10];exact gE,by rw [aw _ _ n10];exact qg9,hLl,fun j x hj hx=>(hnv0 j x hj hx).le (eM (ac _ hb10))⟩
   by_cases hxb:x=b10
   ·subst hxb;rw [an] at hx ⊢;exact hx
   ·rw [aw _ _ hxb] at hx ⊢;exact lE9 _ _ hx
  have lE':E.le (E.set b10 (.cells #[Value.func (.func 101) #[] #[.pointer (some ⟨b3,0,none⟩),.pointer (some ⟨b2,0,none⟩)]] 167)):=ac _ E10
  have q10:=an E b10 (.cells #[Value.func (.func 101) #[] #[.pointer (some ⟨b3,0,none⟩),.pointer (some ⟨b2,0,none⟩)]] 167)
  generalize E.set b10 (.cells #[Value.func (.func 101) #[] #[.pointer (some ⟨b3,0,none⟩),.pointer (some ⟨b2,0,none⟩)]] 167)=E2 at*
  generalize F9.set b10 (.cells #[Value.func (.func 101) #[] #[.pointer (some ⟨b3,0,none⟩),.pointer (some ⟨b2,0,none⟩)]] 167)=F10 at*
  have hce:CE E2 b2 b3 b9 b10 g N (tre a) ((aA (tre a)).length+2):=by
   refine ⟨by rw [am (lE' _ _ q3E)];rfl,⟨#[s.v,vi a.2],aj (lE' _ _ q2E),?_⟩,by rw [am (lE' _ _ q9E)];rfl,by rw [am q10];rfl⟩
   rw [← ea]
   exact ha'.le (lFE.trans lE')
  have lFE2:F.le E2:=lFE.trans lE'
  refine ⟨s,by rw [am (hcs0.le _ _ (lE' _ _ q2E))];rfl,?_⟩
  refine ⟨fun m i F'=>∃(k:Nat) (Ls:List Sl),i=k∧k≤(aA (tre a)).length∧m=(aA (tre a)).length - k∧CS E2 F' g N (aA (tre a)) k Ls,(aA (tre a)).length,⟨0,Ls,rfl,by omega,rfl,hcs0⟩,?_⟩
  clear hcs0 hnv0 hLl qg9 d9
  clear Ls
  rintro m i F11 ⟨k,Ls,rfl,hk,rfl,hcs⟩
  unfold Bk
  refine ⟨fun hlt=> ?_,fun hge=> ?_⟩
  ·have hkT:k<(aA (tre a)).length:=by omega
   obtain ⟨hck,vv,lo',hi',hget,hlo,hhi,hok,_⟩:=oY hT k hkT
   have hlo2:=bY hlo
   have hhi2:=bY hhi
   rw [← fR hlo,List.length_take] at hlo2
   rw [← fR hhi,List.length_take] at hhi2
   have inl:inn (aA (tre a)) lo':=by rw [← List.take_append_drop k (aA (tre a))];exact bj hlo
   have inh:inn (aA (tre a)) hi':=by rw [← List.take_append_drop k (aA (tre a))];exact bj hhi
   have hk2:tr (aA (tre a)) (k+2)=node vv lo' hi':=by
    unfold tr
    rw [if_neg (by omega),if_neg (by omega),Nat.add_sub_cancel,List.getD_eq_getElem?_getD,hget]
    rfl
   obtain ⟨bn0,bn1,bn2⟩:bi N (node vv lo' hi'):=(oV hbel _ (List.mem_of_getElem? hget)).1
   have hok':=hok
   obtain ⟨o1,o2,o3,o4,o5,o6⟩:=hok
   obtain ⟨p,hp,hrow,_⟩:=rdb (hr'.le (lFE2.trans hcs.le)) (fa hget)
   refine ⟨p,hp,by omega,hlt,aO (br (aA (tre a)) (node vv lo' hi')),rfl,by simpa using hrow,?_⟩
   intro b13 hb13
   refine atI ?_
   refine stW (an _ _ _) rfl rfl (eE _) ?_
   rw [aP]
   have hcs1:=hcs.upto (ac (.cells (aO (br (aA (tre a)) (node vv lo' hi'))) 103) hb13)
   have q13:=an F11 b13 (.cells (aO (br (aA (tre a)) (node vv lo' hi'))) 103)
   have n13:b13≠g:=(aE hb13 hcs.hg).symm
   generalize F11.set b13 (.cells (aO (br (aA (tre a)) (node vv lo' hi'))) 103)=F12 at*
   have hwv:IntKind.i64.wrap ((vv:Int)+1)=((vv+1:Nat):Int):=eW (by omega)
   refine ⟨(num (aA (tre a)) lo':Int),by rw [am q13];rfl,(vv:Int),by rw [am q13];rfl,?_⟩
   dsimp only
   rw [hwv]
   refine (gu ka hsl hN hce hcs1 inl bn1 (by omega) (by omega)).mono ?_
   rintro _ F13 ⟨sl,rfl,hsl1,l13⟩
   have hcs2:=hcs1.upto l13
   refine ⟨_,_,rfl,(num (aA (tre a)) hi':Int),by rw [am (l13 _ _ q13)];rfl,(vv:Int),by rw [am (l13 _ _ q13)];rfl,?_⟩
   dsimp only
   rw [hwv]
   refine (gu ka hsl hN hce hcs2 inh bn2 (by omega) (by omega)).mono ?_
   rintro _ F14 ⟨sh,rfl,hsh1,l14⟩
   have hcs3:=hcs2.upto l14
   have hsl2:=hsl1.le (eM (x:=g) l14)
   have val:∀u:Tr,u.ok→bi N u→vv<u.top→cv N u*2 ^ (min N u.top - (vv+1))≤18446744073709551616:=fun u hu hbu hvu=>by
    refine Nat.le_trans (Nat.mul_le_mul_right _ (xS hN u hu hbu)) ?_
    rw [← Nat.pow_add]
    exact FV (by omega)
   refine ⟨_,_,rfl,?_⟩
   refine (LJ hcs3.hg hsl2 hsh1 (val _ o5 bn1 o2) (val _ o6 bn2 o3)).mono ?_
   rintro _ F15 ⟨s',rfl,hs',l15,_⟩
   have hcs4:=hcs3.upto l15
   have hw4:IntKind.i64.wrap ((k:Int)+2)=((k+2:Nat):Int):=by rw [aJ (by omega) (by omega)];omega
   refine ⟨_,_,rfl,fun hc=>absurd rfl hc,fun _=> ?_⟩
   rw [hw4]
   refine ⟨_,aq hcs4.le hce.c9,_,rfl,by omega,by simp only;omega,?_⟩
   refine jM (b:=g) (o:=k+2) (by simp;omega) hcs4.hg (by have:=hcs4.len;simp;omega) ?_
   rw [List.setIfInBounds_toArray]
   have e1:(Ls.map Sl.v).set (k+2) s'.v=(Ls.set (k+2) s').map Sl.v:=by rw [List.map_set]
   rw [e1]
   have d15:bF (F15.set g (.cells ((Ls.set (k+2) s').map Sl.v).toArray 89)) g=bF F15 g:=by
    funext y
    by_cases hy:y=g
    ·subst hy;rw [fw,fw]
    ·rw [ca hy,ca hy,aw _ _ hy]
   refine ⟨(aA (tre a)).length - (k+1),by omega,k+1,Ls.set (k+2) s',eW (by omega),by omega,rfl,au hcs4.le hcs4.ng,hcs4.ng,an _ _ _,by rw [List.length_set];exact hcs4.len,fun j x hj hx=> ?_⟩
   rw [d15]
   by_cases hjk:k+2=j
   ·subst hjk
    rw [List.getElem?_set_self (by have:=hcs4.len;omega)] at hx
    obtain rfl:=Option.some.inj hx
    rw [hk2]
    exact hs'
   ·rw [List.getElem?_set_ne hjk] at hx
    exact hcs4.nv j x (by omega) hx
  ·obtain rfl:k=(aA (tre a)).length:=by omega
   unfold Bj
   have hnl:=bY (bG ka)
   refine ⟨(num (aA (tre a)) (tre a):Int),by rw [am (hcs.le _ _ (lE' _ _ q2E))];rw [← e2];rfl,?_⟩
   refine (gu (from_:=0) ka hsl hN hce hcs (bG ka) hbel (by omega) (by omega)).mono ?_
   rintro _ F12 ⟨s',rfl,hs',l12⟩
   refine ⟨_,_,rfl,s',by rw [hcount],?_,lFE2.trans (hcs.le.trans l12)⟩
   rw [hcount]
   unfold gr
   rw [Nat.sub_zero] at hs'
   exact hs'.le (mG _ _)
end
end Go.Proofs.YtenpmjhnhepfdaaGreatDoor

/-
  The reference's reader: filters.
-/
import Derived.Test.YtenpmjhnhepfdaaGreatDoorLg
import Derived.Test.YtenpmjhnhepfdaaGreatDoorMw
namespace Go.Proofs.YtenpmjhnhepfdaaGreatDoor
open Go.IntKind (i64 u8 u64)
open Go Go.Proofs.Tryz
set_option maxRecDepth 10000
theorem Vq:∃b z,SlT 31 103 3 b z:=⟨_,_,underlying31,x7,x8,rfl,by decide,by decide⟩
theorem Xu:∀N c0 l1 o v R i F,lY N c0 l1 o v R i F=dn 1 (λ_=>iM (ldX) #[.string ⟨#[]⟩] 9 30 o l1 N i F) N c0 l1 o v R i F:=λ_ _ _ _ _ _ _ _=>rfl
theorem Vr:∀N c0 l1 o v R i F,lZ N c0 l1 o v R i F=dn 7 (λ_=>iM (ldS 7) zT 79 34 o l1 N i F) N c0 l1 o v R i F:=λ_ _ _ _ _ _ _ _=>rfl
theorem Vs:∀N c0 l1 o v R i F,ma N c0 l1 o v R i F=dn 13 (λ_=>iM (ldS 13) zP 67 35 o l1 N i F) N c0 l1 o v R i F:=λ_ _ _ _ _ _ _ _=>rfl
theorem Vt:∀N c0 l1 o v R i F,me N c0 l1 o v R i F=dn 4 (λ_=>iM (ldS 4) zL 72 36 o l1 N i F) N c0 l1 o v R i F:=λ_ _ _ _ _ _ _ _=>rfl
theorem Vu:∀N c0 l1 o v R i F,mh N c0 l1 o v R i F=dn 9 (λ_=>iM (ldS 9) zF 74 37 o l1 N i F) N c0 l1 o v R i F:=λ_ _ _ _ _ _ _ _=>rfl
theorem Vv:∀N c0 l1 o v R i F,mn N c0 l1 o v R i F=dn 5 (λ_=>iM (ldS 5) #[vi 0,vi 0,vi 0,vi 0,vi 0] 97 77 o l1 N i F) N c0 l1 o v R i F:=λ_ _ _ _ _ _ _ _=>rfl
theorem Vw:∀N c0 l1 o v R i F,mo N c0 l1 o v R i F=dn 2 (λ_=>iM (ldS 2) #[.bool false,vi 0] 69 62 o l1 N i F) N c0 l1 o v R i F:=λ_ _ _ _ _ _ _ _=>rfl
theorem Vx:∀N c0 l1 o v R i F,mp N c0 l1 o v R i F=dn 3 (λ_=>iM (ldS 3) #[vi 0,vi 0,vi 0] 101 63 o l1 N i F) N c0 l1 o v R i F:=λ_ _ _ _ _ _ _ _=>rfl
theorem Xv:∀N c0 l1 o v R i F,mq N c0 l1 o v R i F=dn 1 (λ_=>iM (ldI) #[vi 0] 3 70 o l1 N i F) N c0 l1 o v R i F:=λ_ _ _ _ _ _ _ _=>rfl
theorem Vy:∀N c0 l1 o v R i F,mj N c0 l1 o v R i F=dn 3 (λ_=>iM (ldS 3) #[vi 0,vi 0,vi 0] 103 31 o l1 N i F) N c0 l1 o v R i F:=λ_ _ _ _ _ _ _ _=>rfl
section
variable {G F:PH} {As:List (Ψ)} {s:Sl} {B:Δ} {bc b o e0:Nat} {r:Option Δ} {w:Γ}
theorem Ok {d:Ps ByteArray} {k:Nat} {fst cap:Γ} {args:Value->Γ} (K:Rd G s B) (hk:aB prog k=true) (ha:∀p,fst++([p]).toArray++cap=args p) (hone:gB ByteArray G s B bc d k args #[.string ⟨#[]⟩] 9) (h:St G F (rcS s B bc r::pt b (.cells w e0)::As)) (hv:w[o]? =some (Sl.v Sl.nil)):
  ae prog 118 #[pc bc,.pointer (some (Addr.mk b o none)),.func (.func k) fst cap] F λres F'=>res=.tuple #[]/\∃G' ys sl r',G.le G'/\Res (dL d) r ys r'/\RL G' sl ys/\St G' F' (rcS s B bc r'::pt b (.cells (w.setIfInBounds o (Sl.v sl)) e0)::As):=by
 exact LF (gC K h hv rfl FE Qo hk ha hone Xu)
theorem Qf {d:Ps Tk} {k:Nat} {fst cap:Γ} {args:Value->Γ} (K:Rd G s B) (hk:aB prog k=true) (ha:∀p,fst++([p]).toArray++cap=args p) (hone:gB Tk G s B bc d k args zT 79) (h:St G F (rcS s B bc r::pt b (.cells w e0)::As)) (hv:w[o]? =some (Sl.v Sl.nil)):
  ae prog 121 #[pc bc,.pointer (some (Addr.mk b o none)),.func (.func k) fst cap] F λres F'=>res=.tuple #[]/\∃G' ys sl r',G.le G'/\Res (dL d) r ys r'/\RL G' sl ys/\St G' F' (rcS s B bc r'::pt b (.cells (w.setIfInBounds o (Sl.v sl)) e0)::As):=by
 obtain ⟨_,_,T⟩:=FF;exact Fu (gC K h hv rfl T (jw rfl) hk ha hone Vr)
theorem Qg {d:Ps Pr} {k:Nat} {fst cap:Γ} {args:Value->Γ} (K:Rd G s B) (hk:aB prog k=true) (ha:∀p,fst++([p]).toArray++cap=args p) (hone:gB Pr G s B bc d k args zP 67) (h:St G F (rcS s B bc r::pt b (.cells w e0)::As)) (hv:w[o]? =some (Sl.v Sl.nil)):
  ae prog 123 #[pc bc,.pointer (some (Addr.mk b o none)),.func (.func k) fst cap] F λres F'=>res=.tuple #[]/\∃G' ys sl r',G.le G'/\Res (dL d) r ys r'/\RL G' sl ys/\St G' F' (rcS s B bc r'::pt b (.cells (w.setIfInBounds o (Sl.v sl)) e0)::As):=by
 obtain ⟨_,_,T⟩:=D0;exact Fv (gC K h hv rfl T (jw rfl) hk ha hone Vs)
theorem Qh {d:Ps Lv} {k:Nat} {fst cap:Γ} {args:Value->Γ} (K:Rd G s B) (hk:aB prog k=true) (ha:∀p,fst++([p]).toArray++cap=args p) (hone:gB Lv G s B bc d k args zL 72) (h:St G F (rcS s B bc r::pt b (.cells w e0)::As)) (hv:w[o]? =some (Sl.v Sl.nil)):
  ae prog 126 #[pc bc,.pointer (some (Addr.mk b o none)),.func (.func k) fst cap] F λres F'=>res=.tuple #[]/\∃G' ys sl r',G.le G'/\Res (dL d) r ys r'/\RL G' sl ys/\St G' F' (rcS s B bc r'::pt b (.cells (w.setIfInBounds o (Sl.v sl)) e0)::As):=by
 obtain ⟨_,_,T⟩:=JE;exact Fw (gC K h hv rfl T (jw rfl) hk ha hone Vt)
theorem Qi {d:Ps Fi} {k:Nat} {fst cap:Γ} {args:Value->Γ} (K:Rd G s B) (hk:aB prog k=true) (ha:∀p,fst++([p]).toArray++cap=args p) (hone:gB Fi G s B bc d k args zF 74) (h:St G F (rcS s B bc r::pt b (.cells w e0)::As)) (hv:w[o]? =some (Sl.v Sl.nil)):
  ae prog 128 #[pc bc,.pointer (some (Addr.mk b o none)),.func (.func k) fst cap] F λres F'=>res=.tuple #[]/\∃G' ys sl r',G.le G'/\Res (dL d) r ys r'/\RL G' sl ys/\St G' F' (rcS s B bc r'::pt b (.cells (w.setIfInBounds o (Sl.v sl)) e0)::As):=by
 obtain ⟨_,_,T⟩:=JF;exact Fx (gC K h hv rfl T (jw rfl) hk ha hone Vu)
theorem Qj {d:Ps Nd} {k:Nat} {fst cap:Γ} {args:Value->Γ} (K:Rd G s B) (hk:aB prog k=true) (ha:∀p,fst++([p]).toArray++cap=args p) (hone:gB Nd G s B bc d k args #[vi 0,vi 0,vi 0,vi 0,vi 0] 97) (h:St G F (rcS s B bc r::pt b (.cells w e0)::As)) (hv:w[o]? =some (Sl.v Sl.nil)):
  ae prog 182 #[pc bc,.pointer (some (Addr.mk b o none)),.func (.func k) fst cap] F λres F'=>res=.tuple #[]/\∃G' ys sl r',G.le G'/\Res (dL d) r ys r'/\RL G' sl ys/\St G' F' (rcS s B bc r'::pt b (.cells (w.setIfInBounds o (Sl.v sl)) e0)::As):=by
 obtain ⟨_,_,T⟩:=QE;exact Fy (gC K h hv rfl T (jw rfl) hk ha hone Vv)
theorem Qk {d:Ps Sy} {k:Nat} {fst cap:Γ} {args:Value->Γ} (K:Rd G s B) (hk:aB prog k=true) (ha:∀p,fst++([p]).toArray++cap=args p) (hone:gB Sy G s B bc d k args #[.bool false,vi 0] 69) (h:St G F (rcS s B bc r::pt b (.cells w e0)::As)) (hv:w[o]? =some (Sl.v Sl.nil)):
  ae prog 184 #[pc bc,.pointer (some (Addr.mk b o none)),.func (.func k) fst cap] F λres F'=>res=.tuple #[]/\∃G' ys sl r',G.le G'/\Res (dL d) r ys r'/\RL G' sl ys/\St G' F' (rcS s B bc r'::pt b (.cells (w.setIfInBounds o (Sl.v sl)) e0)::As):=by
 obtain ⟨_,_,T⟩:=JD;exact Fz (gC K h hv rfl T (jw rfl) hk ha hone Vw)
theorem Ql {d:Ps Cn} {k:Nat} {fst cap:Γ} {args:Value->Γ} (K:Rd G s B) (hk:aB prog k=true) (ha:∀p,fst++([p]).toArray++cap=args p) (hone:gB Cn G s B bc d k args #[vi 0,vi 0,vi 0] 101) (h:St G F (rcS s B bc r::pt b (.cells w e0)::As)) (hv:w[o]? =some (Sl.v Sl.nil)):
  ae prog 187 #[pc bc,.pointer (some (Addr.mk b o none)),.func (.func k) fst cap] F λres F'=>res=.tuple #[]/\∃G' ys sl r',G.le G'/\Res (dL d) r ys r'/\RL G' sl ys/\St G' F' (rcS s B bc r'::pt b (.cells (w.setIfInBounds o (Sl.v sl)) e0)::As):=by
 obtain ⟨_,_,T⟩:=QF;exact FA (gC K h hv rfl T (jw rfl) hk ha hone Vx)
theorem Ol {d:Ps Int} {k:Nat} {fst cap:Γ} {args:Value->Γ} (K:Rd G s B) (hk:aB prog k=true) (ha:∀p,fst++([p]).toArray++cap=args p) (hone:gB Int G s B bc d k args #[vi 0] 3) (h:St G F (rcS s B bc r::pt b (.cells w e0)::As)) (hv:w[o]? =some (Sl.v Sl.nil)):
  ae prog 189 #[pc bc,.pointer (some (Addr.mk b o none)),.func (.func k) fst cap] F λres F'=>res=.tuple #[]/\∃G' ys sl r',G.le G'/\Res (dL d) r ys r'/\RL G' sl ys/\St G' F' (rcS s B bc r'::pt b (.cells (w.setIfInBounds o (Sl.v sl)) e0)::As):=by
 exact LG (gC K h hv rfl xh Qp hk ha hone Xv)
theorem Qm {d:Ps Br} {k:Nat} {fst cap:Γ} {args:Value->Γ} (K:Rd G s B) (hk:aB prog k=true) (ha:∀p,fst++([p]).toArray++cap=args p) (hone:gB Br G s B bc d k args #[vi 0,vi 0,vi 0] 103) (h:St G F (rcS s B bc r::pt b (.cells w e0)::As)) (hv:w[o]? =some (Sl.v Sl.nil)):
  ae prog 179 #[pc bc,.pointer (some (Addr.mk b o none)),.func (.func k) fst cap] F λres F'=>res=.tuple #[]/\∃G' ys sl r',G.le G'/\Res (dL d) r ys r'/\RL G' sl ys/\St G' F' (rcS s B bc r'::pt b (.cells (w.setIfInBounds o (Sl.v sl)) e0)::As):=by
 obtain ⟨_,_,T⟩:=Vq;exact Ft (gC K h hv rfl T (jw rfl) hk ha hone Vy)
theorem Vz (K:Rd G s B):gB ByteArray G s B bc dS 119 (λp=> #[pc bc,p]) #[.string ⟨#[]⟩] 9:=λG1 F1 r1 b8 As1 l h=>by refine (sR (K.le l) (o:=0) h rfl).mono ?_;rintro _ F' ⟨rfl,y,r',hr,h⟩;exact ⟨rfl,G1,y,r',_,am _,hr,rfl,h⟩
theorem VA (K:Rd G s B):gB Int G s B bc dI 125 (λp=> #[pc bc,p]) #[vi 0] 3:=λG1 F1 r1 b8 As1 l h=>by refine (dz (K.le l) (o:=0) h rfl).mono ?_;rintro _ F' ⟨rfl,y,r',hr,h⟩;exact ⟨rfl,G1,y,r',_,am _,hr,rfl,h⟩
theorem AM {z:Nat}:∀o,o<z->(Array.replicate z (vi 0))[o]? =some (vi 0):=λo h=>by rw [Array.getElem?_replicate,if_pos h]
theorem VB (K:Rd G s B) {b2:Nat} (q:G.cell (Addr.mk b2 0 none)=some (pc bc)):gB Br G s B bc dBr 180 (λp=> #[p,.pointer (some (Addr.mk b2 0 none))]) #[vi 0,vi 0,vi 0] 103:=λG1 F1 r1 b8 As1 l h=>by
 refine Nk ?_;unfold Ii;refine ⟨_,rfl,_,au (aa l h.le) q,_,rfl,?_⟩;refine h.newG λb13 G2 F2 l2 q13 _ h=> ?_;refine (jW (K.le (aa l l2)) (os:=[0,1,2]) (bp:=b13) q13 (by decide) (λo ho=>⟨0,AM (z:=3) o (by simp at ho;omega)⟩) h).mono ?_;rintro _ F3 ⟨rfl,ys,r',w',hN,h⟩;cases hN with|cons h0 hN=>
 cases hN with|cons h1 hN=>
 cases hN with|cons h2 hN=>
 cases hN;have hR:=(h0.pair (h1.pair h2)).map (λx=>Br.mk x.1 x.2.1 x.2.2);exact ⟨rfl,rfl,G2,_,_,_,l2,hR,rfl,h⟩
theorem VC (K:Rd G s B) {b2:Nat} (q:G.cell (Addr.mk b2 0 none)=some (pc bc)):gB Nd G s B bc dNd 183 (λp=> #[p,.pointer (some (Addr.mk b2 0 none))]) #[vi 0,vi 0,vi 0,vi 0,vi 0] 97:=λG1 F1 r1 b8 As1 l h=>by
 refine Nm ?_;unfold Ik;refine ⟨_,rfl,_,au (aa l h.le) q,_,rfl,?_⟩;refine h.newG λb13 G2 F2 l2 q13 _ h=> ?_;refine (jW (K.le (aa l l2)) (os:=[0,1,2,3,4]) (bp:=b13) q13 (by decide) (λo ho=>⟨0,AM (z:=5) o (by simp at ho;omega)⟩) h).mono ?_;rintro _ F3 ⟨rfl,ys,r',w',hN,h⟩;cases hN with|cons h0 hN=>
 cases hN with|cons h1 hN=>
 cases hN with|cons h2 hN=>
 cases hN with|cons h3 hN=>
 cases hN with|cons h4 hN=>
 cases hN;have hR:=(h0.pair (h1.pair (h2.pair (h3.pair h4)))).map (λx=>Nd.mk x.1 x.2.1 x.2.2.1 x.2.2.2.1 x.2.2.2.2);exact ⟨rfl,rfl,G2,_,_,_,l2,hR,rfl,h⟩
theorem VD (K:Rd G s B) {b2:Nat} (q:G.cell (Addr.mk b2 0 none)=some (pc bc)):gB Cn G s B bc dCn 188 (λp=> #[p,.pointer (some (Addr.mk b2 0 none))]) #[vi 0,vi 0,vi 0] 101:=λG1 F1 r1 b8 As1 l h=>by
 refine Nq ?_;unfold In;refine ⟨_,rfl,_,au (aa l h.le) q,_,rfl,?_⟩;refine h.newG λb13 G2 F2 l2 q13 _ h=> ?_;refine (jW (K.le (aa l l2)) (os:=[0,1,2]) (bp:=b13) q13 (by decide) (λo ho=>⟨0,AM (z:=3) o (by simp at ho;omega)⟩) h).mono ?_;rintro _ F3 ⟨rfl,ys,r',w',hN,h⟩;cases hN with|cons h0 hN=>
 cases hN with|cons h1 hN=>
 cases hN with|cons h2 hN=>
 cases hN;have hR:=(h0.pair (h1.pair h2)).map (λx=>Cn.mk x.1 x.2.1 x.2.2);exact ⟨rfl,rfl,G2,_,_,_,l2,hR,rfl,h⟩
theorem VF (K:Rd G s B) {b2:Nat} (q:G.cell (Addr.mk b2 0 none)=some (pc bc)):gB Sy G s B bc dSy 185 (λp=> #[p,.pointer (some (Addr.mk b2 0 none))]) #[.bool false,vi 0] 69:=λG1 F1 r1 b8 As1 l h=>by refine No ?_;unfold Il;refine ⟨_,rfl,_,au (aa l h.le) q,_,rfl,?_⟩;refine (AO (K.le l) (o:=0) h rfl).mono ?_;rintro _ F2 ⟨rfl,y1,r2,h1,h⟩;refine ⟨rfl,_,au (aa l h.le) q,?_⟩;refine (dz (K.le l) (o:=1) h rfl).mono ?_;rintro _ F3 ⟨rfl,y2,r3,h2,h⟩;have hR:=(h1.pair h2).map (λx=>Sy.mk x.1 x.2);exact ⟨rfl,rfl,G1,_,_,_,am _,hR,rfl,h⟩
theorem yx (K:Rd G s B) {v0:Int} (h:St G F (rcS s B bc r::pt b (.cells w e0)::As)) (hv:w[o]? =some (Sl.v Sl.nil)) (hv2:w[o+1]? =some (vi v0)):
  ae prog 120 #[pc bc,.pointer (some (Addr.mk b o none))] F λres F'=>res=.tuple #[]/\∃G' y n r',G.le G'/\Res dD r y r'/\RL G' n y.1/\St G' F' (rcS s B bc r'::pt b (.cells ((w.setIfInBounds o (Sl.v n)).setIfInBounds (o+1) (vi y.2)) e0)::As):=by
 have c2:=cbW.2.2.2.2.2.2.1;refine MZ ?_;unfold Ib;refine h.newG λb2 G1 F1 l1 q2 _ h=>⟨_,ld (h.le _ _ q2) rfl,_,rfl,?_⟩;refine (Qm (fst:= #[]) (cap:= #[.pointer (some (Addr.mk b2 0 none))]) (K.le l1) c2 (λ_=>rfl) (VB (K.le l1) (ld q2 rfl)) h hv).mono ?_;rintro _ F2 ⟨rfl,G2,ys,n,r2,l2,h1,hn,h⟩;refine ⟨rfl,_,ld (h.le _ _ (l2 _ _ q2)) rfl,?_⟩;rw [av];refine (dz (K.le (aa l1 l2)) (o:=o+1) h (by rw [YA (by omega)];exact hv2)).mono ?_;rintro _ F3 ⟨rfl,y2,r3,h2,h⟩;exact ⟨rfl,rfl,G2,(ys,y2),n,r3,aa l1 l2,h1.pair h2,hn,h⟩
theorem VG (K:Rd G s B):gB Tk G s B bc dTk 122 (λp=> #[pc bc,p]) zT 79:=λG1 F1 r1 b8 As1 l h=>by have c2:=cbW.2.2.2.2.2.2.2.1;refine M0 ?_;unfold Ic;refine h.newG λb2 G2 F2 l2 q2 _ h=>⟨_,ld (h.le _ _ q2) rfl,_,rfl,?_⟩;have K2:=K.le (aa l l2);refine (sR K2 (o:=0) h rfl).mono ?_;rintro _ F3 ⟨rfl,y1,r1,h1,h⟩;refine ⟨rfl,_,ld (h.le _ _ q2) rfl,?_⟩;refine (dz K2 (o:=1) h rfl).mono ?_;rintro _ F3 ⟨rfl,y2,r2,h2,h⟩;refine ⟨rfl,_,ld (h.le _ _ q2) rfl,?_⟩;refine (sR K2 (o:=2) h rfl).mono ?_;rintro _ F3 ⟨rfl,y3,r3,h3,h⟩;refine ⟨rfl,_,ld (h.le _ _ q2) rfl,?_⟩;refine (Qj (fst:= #[]) (cap:= #[.pointer (some (Addr.mk b2 0 none))]) K2 c2 (λ_=>rfl) (VC K2 (ld q2 rfl)) (o:=3) h rfl).mono ?_;rintro _ F4 ⟨rfl,G3,y4,n4,r4,l3,h4,hn4,h⟩;refine ⟨rfl,_,ld (h.le _ _ (l3 _ _ q2)) rfl,?_⟩;refine (sR (K2.le l3) (o:=4) h rfl).mono ?_;rintro _ F5 ⟨rfl,y5,r5,h5,h⟩;refine ⟨rfl,_,ld (h.le _ _ (l3 _ _ q2)) rfl,?_⟩;refine (yx (K2.le l3) (o:=5) h rfl rfl).mono ?_;rintro _ F6 ⟨rfl,G4,y6,n6,r6,l4,h6,hn6,h⟩;have hR:=(h1.pair (h2.pair (h3.pair (h4.pair (h5.pair h6))))).map (λx=>Tk.mk x.1 x.2.1 x.2.2.1 x.2.2.2.1 x.2.2.2.2.1 x.2.2.2.2.2);exact ⟨rfl,rfl,G4,_,_,_,aa l2 (aa l3 l4),hR,⟨n4,n6,rfl,hn4.le l4,hn6⟩,h⟩
set_option maxHeartbeats 2000000 in
theorem VH (K:Rd G s B):gB Pr G s B bc dPr 124 (λp=> #[pc bc,p]) zP 67:=λG1 F1 r1 b8 As1 l h=>by
 obtain ⟨_,_,_,_,_,_,_,_,c2,c3⟩:=cbW;refine M1 ?_;unfold Id;refine h.newG λb2 G2 F2 l2 q2 _ h=>⟨_,ld (h.le _ _ q2) rfl,_,rfl,?_⟩;have K2:=K.le (aa l l2);replace h:=h.cw (w':= #[.string ⟨#[]⟩,vi 0,Sl.v Sl.nil,Sl.v Sl.nil,vi 0,.bool false,vi 0,Sl.v Sl.nil,.bool false,vi 0,vi 0,vi 0,vi 0]) (by kernel_rfl);refine (sR K2 (o:=0) h rfl).mono ?_;rintro _ F3 ⟨rfl,y1,r1,h1,h⟩;replace h:=h.cw (w':= #[.string y1,vi 0,Sl.v Sl.nil,Sl.v Sl.nil,vi 0,.bool false,vi 0,Sl.v Sl.nil,.bool false,vi 0,vi 0,vi 0,vi 0]) (by kernel_rfl);refine ⟨rfl,_,ld (h.le _ _ q2) rfl,?_⟩;refine (dz K2 (o:=1) h rfl).mono ?_;rintro _ F3 ⟨rfl,y2,r2,h2,h⟩;replace h:=h.cw (w':= #[.string y1,vi y2,Sl.v Sl.nil,Sl.v Sl.nil,vi 0,.bool false,vi 0,Sl.v Sl.nil,.bool false,vi 0,vi 0,vi 0,vi 0]) (by kernel_rfl);refine ⟨rfl,_,ld (h.le _ _ q2) rfl,?_⟩;refine (Qk (fst:= #[]) (cap:= #[.pointer (some (Addr.mk b2 0 none))]) K2 c2 (λ_=>rfl) (VF K2 (ld q2 rfl)) (o:=2) h rfl).mono ?_;rintro _ F4 ⟨rfl,G3,y3,n3,r3,l3,h3,hn3,h⟩;replace h:=h.cw (w':= #[.string y1,vi y2,Sl.v n3,Sl.v Sl.nil,vi 0,.bool false,vi 0,Sl.v Sl.nil,.bool false,vi 0,vi 0,vi 0,vi 0]) (by kernel_rfl);replace K2:=K2.le l3;replace q2:=l3 _ _ q2;refine ⟨rfl,_,ld (h.le _ _ q2) rfl,?_⟩;refine (yx K2 (o:=3) h rfl rfl).mono ?_;rintro _ F6 ⟨rfl,G4,y4,n4,r4,l4,h4,hn4,h⟩;replace h:=h.cw (w':= #[.string y1,vi y2,Sl.v n3,Sl.v n4,vi y4.2,.bool false,vi 0,Sl.v Sl.nil,.bool false,vi 0,vi 0,vi 0,vi 0]) (by kernel_rfl);replace K2:=K2.le l4;replace q2:=l4 _ _ q2;refine ⟨rfl,_,ld (h.le _ _ q2) rfl,?_⟩;refine (AO K2 (o:=5) h rfl).mono ?_;rintro _ F6 ⟨rfl,y5,r5,h5,h⟩;replace h:=h.cw (w':= #[.string y1,vi y2,Sl.v n3,Sl.v n4,vi y4.2,.bool y5,vi 0,Sl.v Sl.nil,.bool false,vi 0,vi 0,vi 0,vi 0]) (by kernel_rfl);have hb5:=h.rcB K2;refine ⟨rfl,_,by rw [av];exact h.ld1 rfl,?_⟩;refine h.new λb4 F7 h=> ?_;refine h.set0 (w':= #[vi (i64.wrap ((0:Int)+1))]) (by simp) rfl λF7 h=>⟨_,ld (h.le _ _ q2) rfl,?_⟩;refine (dz K2 (o:=0) h.swap rfl).mono ?_;rintro _ F8 ⟨rfl,y6,r6,h6,h⟩;refine ⟨rfl,_,ld (h.le _ _ q2) rfl,_,rfl,_,h.rcBad.2,λ_=>⟨_,h.ld1 rfl,?_⟩,λhc=>absurd rfl hc⟩;have e6:i64.wrap (y6 - 1)=y6 - 1\/r6=none:=by
  cases r5 with
  |none=>exact .inr h6
  |some l5=>
   unfold Res at h6;dsimp only at h6;cases hq:dI l5 with
   |none=>rw [hq] at h6;exact .inr h6
   |some q=>
    obtain ⟨x,l'⟩:=q;rw [hq] at h6;obtain ⟨rfl,rfl⟩:=h6;refine .inl ?_;unfold dI ft at hq;cases hd:ff l5 with
    |none=>rw [hd] at hq;cases hq
    |some p=>obtain ⟨m,l''⟩:=p;rw [hd] at hq;cases hq;have hm:m<128 ^ 9:=(Je 9 l5 m _ (XA _) (hb5 l5 rfl) hd).2.1;exact aH (by show -9223372036854775808<=(m:Int) - 1;omega) (by show (m:Int) - 1<=9223372036854775807;omega)
 dsimp only;rw [av];refine h.set2 (i:=0+6) (w':= #[.string y1,vi y2,Sl.v n3,Sl.v n4,vi y4.2,.bool y5,vi (i64.wrap (y6 - 1)),Sl.v Sl.nil,.bool false,vi 0,vi 0,vi 0,vi 0]) (by show 6<13;decide) (by kernel_rfl) λF9 h=> ?_;have h:=h.swap.tail;unfold po;refine ⟨_,ld (h.le _ _ q2) rfl,?_⟩;refine (Ql (fst:= #[]) (cap:= #[.pointer (some (Addr.mk b2 0 none))]) K2 c3 (λ_=>rfl) (VD K2 (ld q2 rfl)) (o:=7) h rfl).mono ?_;rintro _ F10 ⟨rfl,G5,y7,n7,r7,l5,h7,hn7,h⟩;replace h:=h.cw (w':= #[.string y1,vi y2,Sl.v n3,Sl.v n4,vi y4.2,.bool y5,vi (i64.wrap (y6 - 1)),Sl.v n7,.bool false,vi 0,vi 0,vi 0,vi 0]) (by kernel_rfl);replace K2:=K2.le l5;replace q2:=l5 _ _ q2;refine ⟨rfl,_,ld (h.le _ _ q2) rfl,?_⟩;refine (AO K2 (o:=8) h rfl).mono ?_;rintro _ F11 ⟨rfl,y8,r8,h8,h⟩;replace h:=h.cw (w':= #[.string y1,vi y2,Sl.v n3,Sl.v n4,vi y4.2,.bool y5,vi (i64.wrap (y6 - 1)),Sl.v n7,.bool y8,vi 0,vi 0,vi 0,vi 0]) (by kernel_rfl);refine ⟨rfl,_,ld (h.le _ _ q2) rfl,?_⟩;refine h.newG λb77 G6 F12 l6 q77 _ h=> ?_
 refine (jW (K2.le l6) (os:=[9,10,11,12]) (bp:=b77) q77 (by decide) (λo ho=>⟨0,by
  simp only [XB,Yq,or_false] at ho
  rcases ho with rfl|rfl|rfl|rfl<;>rfl⟩) h).mono ?_
 rintro _ F13 ⟨rfl,ys,r',w',hN,h⟩;cases hN with| @cons _ _ _ q1 _ _ _ z1 _ g1 hN=>
 cases hN with| @cons _ _ _ q2 _ _ _ z2 _ g2 hN=>
 cases hN with| @cons _ _ _ q3 _ _ _ z3 _ g3 hN=>
 cases hN with| @cons _ _ _ q4 _ _ _ z4 _ g4 hN=>
 cases hN;replace h:=h.cw (w':= #[.string y1,vi y2,Sl.v n3,Sl.v n4,vi y4.2,.bool y5,vi (i64.wrap (y6 - 1)),Sl.v n7,.bool y8,vi z1,vi z2,vi z3,vi z4]) (by kernel_rfl);have l26:=aa l3 (aa l4 (aa l5 l6));have hR:=(h1.pair (h2.pair (h3.pair (h4.pair (h5.pair (h6.pair (h7.pair ((h8.pair (g1.pair (g2.pair (g3.pair g4)))).map (λx=>Sco.mk x.1 x.2.1 x.2.2.1 x.2.2.2.1 x.2.2.2.2))))))))).map (λx=>Pr.mk x.1 x.2.1 x.2.2.1 x.2.2.2.1 x.2.2.2.2.1 (x.2.2.2.2.2.1 - 1) x.2.2.2.2.2.2.1 x.2.2.2.2.2.2.2);rcases e6 with e6|e6
 ·exact ⟨rfl,rfl,G6,_,_,_,aa l2 l26,hR,⟨n3,n4,n7,by rw [e6],hn3.le (aa l4 (aa l5 l6)),hn4.le (aa l5 l6),hn7.le l6⟩,h⟩
 ·exact ⟨rfl,rfl,G6,⟨y1,y2,y3,y4,y5,i64.wrap (y6 - 1),y7,⟨y8,z1,z2,z3,z4⟩⟩,_,_,aa l2 l26,hR.bad (gX g4 (gX g3 (gX g2 (gX g1 (gX h8 (gX h7 e6)))))),⟨n3,n4,n7,rfl,hn3.le (aa l4 (aa l5 l6)),hn4.le (aa l5 l6),hn7.le l6⟩,h⟩
theorem VI (K:Rd G s B):gB Lv G s B bc dLv 127 (λp=> #[pc bc,p]) zL 72:=λG1 F1 r1 b8 As1 l h=>by have K1:=K.le l;refine M3 ?_;unfold If;refine ⟨_,rfl,?_⟩;refine (Ol (fst:= #[pc bc]) (cap:= #[]) K1 cbW.2.1 (λ_=>rfl) (VA K1) (o:=0) h rfl).mono ?_;rintro _ F2 ⟨rfl,G2,y1,n1,r1,l2,h1,hn1,h⟩;refine ⟨rfl,?_⟩;refine (dz (K1.le l2) (o:=1) h rfl).mono ?_;rintro _ F3 ⟨rfl,y2,r2,h2,h⟩;refine ⟨rfl,?_⟩;refine (yx (K1.le l2) (o:=2) h rfl rfl).mono ?_;rintro _ F4 ⟨rfl,G4,y3,n3,r3,l4,h3,hn3,h⟩;have hR:=(h1.pair (h2.pair h3)).map (λx=>Lv.mk x.1 x.2.1 x.2.2);exact ⟨rfl,rfl,G4,_,_,_,aa l2 l4,hR,⟨n1,n3,rfl,hn1.le l4,hn3⟩,h⟩
theorem VJ (K:Rd G s B):gB Fi G s B bc dFi 129 (λp=> #[pc bc,p]) zF 74:=λG1 F1 r1 b8 As1 l h=>by
 have K1:=K.le l;refine M4 ?_;unfold Ig;refine ⟨_,rfl,?_⟩;refine h.newG λb27 G2 F2 l2 q27 _ h=> ?_;have K2:=K1.le l2
 have hw:∀o∈[0,1,2,3,4,5],∃v,(zF)[o]? =some (vi v):=λo ho=>⟨0,by
  simp only [XB,Yq,or_false] at ho
  rcases ho with rfl|rfl|rfl|rfl|rfl|rfl<;>rfl⟩
 refine bF (mi · (some (Addr.mk bc 0 none)) (Addr.mk b8 0 none) b27 _) 6 (λi F'=>∃ys ri wi,gY ([0,1,2,3,4,5].take i) r1 zF ys ri wi/\St G2 F' (rcS s B bc ri::pt b8 (.cells wi 74)::As1)) ⟨[],r1,zF,.nil,h⟩ ?_;rintro i F3 N hi ⟨ys,ri,wi,hN,h⟩ next;unfold mi;refine ⟨λhlt=> ?_,λhge=> ?_⟩
 ·have hlt:i<6:=by have:(i:Int)<((6:Nat):Int):=hlt;omega
  refine ux K2 (os:=[0,1,2,3,4,5]) (bp:=b27) q27 hw hlt hN h λF' ys' ri' wi' hN' h'=>⟨rfl,?_⟩;rw [aE hlt (by omega)];exact next _ hlt ⟨ys',ri',wi',hN',h'⟩
 ·have e:i=6:=by have:¬(i:Int)<((6:Nat):Int):=hge;omega
  subst e;cases hN with| @cons _ _ _ q1 _ _ _ z1 _ g1 hN=>
  cases hN with| @cons _ _ _ q2 _ _ _ z2 _ g2 hN=>
  cases hN with| @cons _ _ _ q3 _ _ _ z3 _ g3 hN=>
  cases hN with| @cons _ _ _ q4 _ _ _ z4 _ g4 hN=>
  cases hN with| @cons _ _ _ q5 _ _ _ z5 _ g5 hN=>
  cases hN with| @cons _ _ _ q6 _ _ _ z6 _ g6 hN=>
  cases hN;replace h:=h.cw (w':= #[vi z1,vi z2,vi z3,vi z4,vi z5,vi z6,Sl.v Sl.nil,Sl.v Sl.nil,vi 0]) (by kernel_rfl);unfold vL;refine ⟨_,rfl,?_⟩;refine (Ol (fst:= #[pc bc]) (cap:= #[]) K2 cbW.2.1 (λ_=>rfl) (VA K2) (o:=6) h rfl).mono ?_;rintro _ F4 ⟨rfl,G4,y7,n7,r7,l4,h7,hn7,h⟩;refine ⟨rfl,?_⟩;refine (yx (K2.le l4) (o:=7) h rfl rfl).mono ?_;rintro _ F5 ⟨rfl,G5,y8,n8,r8,l5,h8,hn8,h⟩;have hR:=(g1.pair (g2.pair (g3.pair (g4.pair (g5.pair (g6.pair (h7.pair h8))))))).map (λx=>Fi.mk x.1 x.2.1 x.2.2.1 x.2.2.2.1 x.2.2.2.2.1 x.2.2.2.2.2.1 x.2.2.2.2.2.2.1 x.2.2.2.2.2.2.2);exact ⟨rfl,rfl,G5,_,_,_,aa l2 (aa l4 l5),hR,⟨n7,n8,by kernel_rfl,hn7.le l5,hn8⟩,h⟩
theorem EH (K:Rd G s B) (h:St G F (rcS s B bc r::pt b (.cells zG 39)::As)):
  ae prog 43 #[pc bc,.pointer (some (Addr.mk b 0 none))] F λres F'=>res=.tuple #[]/\∃G' g v r',G.le G'/\Res dGr r g r'/\GV G' v g/\St G' F' (rcS s B bc r'::pt b (.cells v 39)::As):=by
 obtain ⟨c1,_,c2,c3,c4,c5,_⟩:=cbW;refine To ?_;unfold PO;refine ⟨_,rfl,?_⟩;refine (Ok (fst:= #[pc bc]) (cap:= #[]) K c1 (λ_=>rfl) (Vz K) (o:=0) h rfl).mono ?_;rintro _ F1 ⟨rfl,G1,y1,n1,r1,l1,h1,hn1,h⟩;replace K:=K.le l1;refine ⟨rfl,?_⟩;refine (yx K (o:=1) h rfl rfl).mono ?_;rintro _ F1 ⟨rfl,G2,y2,n2,r2,l2,h2,hn2,h⟩;replace K:=K.le l2;refine ⟨rfl,?_⟩;replace h:=h.cw (w':= #[n1.v,n2.v,vi y2.2,Sl.v Sl.nil,Sl.v Sl.nil,Sl.v Sl.nil,vi 0,Sl.v Sl.nil,Sl.v Sl.nil]) (by kernel_rfl);refine (Qf (fst:= #[pc bc]) (cap:= #[]) K c2 (λ_=>rfl) (VG K) (o:=3) h rfl).mono ?_;rintro _ F1 ⟨rfl,G3,y3,n3,r3,l3,h3,hn3,h⟩;replace K:=K.le l3;refine ⟨rfl,?_⟩;refine (Ok (fst:= #[pc bc]) (cap:= #[]) K c1 (λ_=>rfl) (Vz K) (o:=4) h rfl).mono ?_;rintro _ F1 ⟨rfl,G4,y4,n4,r4,l4,h4,hn4,h⟩;replace K:=K.le l4;refine ⟨rfl,?_⟩;replace h:=h.cw (w':= #[n1.v,n2.v,vi y2.2,n3.v,n4.v,Sl.v Sl.nil,vi 0,Sl.v Sl.nil,Sl.v Sl.nil]) (by kernel_rfl);refine (Qg (fst:= #[pc bc]) (cap:= #[]) K c3 (λ_=>rfl) (VH K) (o:=5) h rfl).mono ?_;rintro _ F1 ⟨rfl,G5,y5,n5,r5,l5,h5,hn5,h⟩;replace K:=K.le l5;refine ⟨rfl,?_⟩;refine (dz K (o:=6) h rfl).mono ?_;rintro _ F1 ⟨rfl,y6,r6,h6,h⟩;refine ⟨rfl,?_⟩;replace h:=h.cw (w':= #[n1.v,n2.v,vi y2.2,n3.v,n4.v,n5.v,vi y6,Sl.v Sl.nil,Sl.v Sl.nil]) (by kernel_rfl);refine (Qh (fst:= #[pc bc]) (cap:= #[]) K c4 (λ_=>rfl) (VI K) (o:=7) h rfl).mono ?_;rintro _ F1 ⟨rfl,G7,y7,n7,r7,l7,h7,hn7,h⟩;replace K:=K.le l7;refine ⟨rfl,?_⟩;refine (Qi (fst:= #[pc bc]) (cap:= #[]) K c5 (λ_=>rfl) (VJ K) (o:=8) h rfl).mono ?_;rintro _ F1 ⟨rfl,G8,y8,n8,r8,l8,h8,hn8,h⟩;have hR:=(h1.pair (h2.pair (h3.pair (h4.pair (h5.pair (h6.pair (h7.pair h8))))))).map (λx=>Gr.mk x.1 x.2.1 x.2.2.1 x.2.2.2.1 x.2.2.2.2.1 x.2.2.2.2.2.1 x.2.2.2.2.2.2.1 x.2.2.2.2.2.2.2);replace h:=h.cw (w':= #[n1.v,n2.v,vi y2.2,n3.v,n4.v,n5.v,vi y6,n7.v,n8.v]) (by kernel_rfl);have k78:=l8;have k58:=aa l7 k78;have k48:=aa l5 k58;have k38:=aa l4 k48;have k28:=aa l3 k38;have k18:=aa l2 k28;exact ⟨rfl,rfl,G8,_,_,_,aa l1 k18,hR,⟨n1,n2,n3,n4,n5,n7,n8,rfl,hn1.le k18,hn2.le k28,hn3.le k38,hn4.le k48,hn5.le k58,hn7.le k78,hn8⟩,h⟩
end
noncomputable def iF (l:Δ):Gr×Int:=match dGr l with
 |some (g,[])=>if bW g=0 then (g,0) else (gr0,55)
 |_=>(gr0,55)
theorem yy {F:PH} {s:Sl} {B:Δ} (hT:Tab F) (K:Rd F s B) (hz:∀g,dGr B=some (g,[])->Sz g):
  ae prog 16 #[s.v] F λr F'=>(∃w,r=.tuple #[.agg w,vi (iF B).2]/\GV F' w (iF B).1)/\F.le F':=by
 have hs:=K.len;refine WR ?_;unfold Tj;refine (St.start F).new λb2 F1 h=> ?_;refine h.new λb8 F2 h=> ?_;have h:St F F2 (rcS s B b8 (some B)::pt b2 (.cells zG 39)::[]):=h.mkR (k:=0) (bad:=false) rfl (by omega) λl e=>by cases e;rfl
 refine h.new λb5 F3 h=> ?_;refine h.put0 (w':=zG) rfl rfl (GV.zero F).st λF3 h=> ?_;refine (EH K h.swap).mono ?_;rintro _ F4 ⟨rfl,G4,g,v,r,l4,hR,hv,h⟩;have K4:=K.le l4;obtain ⟨k,⟨hk,hl⟩,h⟩:=h.exR;have bad:iF B=(gr0,55)->∀{G5 F':PH} {v':Γ} {o:Obj},G4.le G5->St G5 F' [pt b8 o,pt b5 (.cells v' 39),pt b2 (.cells zG 39)]->nA b2 b5 true (λr F'=>(∃w,r=.tuple #[.agg w,vi (iF B).2]/\GV F' w (iF B).1)/\F.le F') F':=λe {G5 F' v' o} l5 h=>by unfold nA;refine ⟨λ_=> ?_,λhc=>(by cases hc)⟩;refine h.put2 (w':=zG) rfl rfl (GV.zero F).st λF6 h=>⟨zG,rfl,h.whole2,?_⟩;rw [e];exact ⟨⟨zG,rfl,GV.zero _⟩,aa l4 (aa l5 h.le)⟩
 unfold Res at hR;dsimp only at hR;refine ⟨rfl,_,h.ld0 rfl,λhb=> ?_,λhb=>⟨_,h.ld0 rfl,λhne=> ?_,λheq=> ?_⟩⟩
 ·refine bad ?_ (am _) h;have:r=none:=by cases r with|none=>rfl|some l=>cases hb
  subst this;unfold iF;cases hd:dGr B with
  |none=>rfl
  |some q=>rw [hd] at hR;cases hR.2
 ·refine bad ?_ (am _) h;obtain ⟨l,rfl⟩:∃l,r=some l:=by cases r with|none=>cases hb|some l=>exact ⟨l,rfl⟩
  unfold iF;cases hd:dGr B with
  |none=>rfl
  |some q=>
   obtain ⟨g',l'⟩:=q;rw [hd] at hR;obtain ⟨rfl,e⟩:=hR;cases e;have e1:=hl l rfl;cases l with
   |nil=>
    have:(B.drop k).length=0:=by rw [e1];rfl
    rw [Yp] at this;exact absurd (show (k:Int)=(s.len:Int) by omega) hne
   |cons x l=>rfl
 ·obtain ⟨l,rfl⟩:∃l,r=some l:=by cases r with|none=>cases hb|some l=>exact ⟨l,rfl⟩
  have hk:k=B.length:=by have:(k:Int)=(s.len:Int):=YV.1 heq;omega
  have e1:=hl l rfl;rw [hk,Ys] at e1;subst e1;obtain ⟨hd⟩:∃_:dGr B=some (g,[]),True:=by
   cases hd:dGr B with
   |none=>rw [hd] at hR;cases hR
   |some q=>obtain ⟨g',l'⟩:=q;rw [hd] at hR;obtain ⟨rfl,e⟩:=hR;cases e;exact ⟨rfl,trivial⟩
  have hdec:iF B=if bW g=0 then (g,0) else (gr0,55):=by unfold iF;rw [hd]
  refine ⟨v,hv.size,h.whole1,?_⟩;refine h.run (gb (hT.le l4) hv (hz g hd)) λ_ G5 F5 hr l5 h=> ?_;rw [hr];refine ⟨_,rfl,?_⟩;by_cases hc:bW g=0
  ·dsimp only;rw [hc,show decide ((0:Int)≠0)=false from rfl];unfold nA;refine ⟨λhc=>(by cases hc),λ_=>⟨v,hv.size,h.whole1,?_⟩⟩;refine h.put2 (w':=v) hv.size rfl hv.st λF6 h=>⟨v,hv.size,h.whole2,?_⟩;rw [hdec,if_pos hc];exact ⟨⟨v,rfl,hv.le (aa l5 h.le)⟩,aa l4 (aa l5 h.le)⟩
  ·dsimp only;rw [decide_eq_true hc];exact bad (by rw [hdec,if_neg hc]) l5 h
end Go.Proofs.YtenpmjhnhepfdaaGreatDoor
namespace Go.Proofs.YtenpmjhnhepfdaaGreatDoor
open Go.IntKind (i64 u8 u64)
open Go Go.Proofs.Tryz Tr
set_option maxRecDepth 10000
section
variable {G F:PH} {As:List (Ψ)} {s:Sl} {B:Δ} {br:Nat} {r:Option Δ}
theorem Ja (K:Rd G s B) (h:St G F (rrS s B br r::As)):
  ae prog 53 #[rp br] F λres F'=>∃(n:Sl) (d:Dia) (r':Option Δ) (G':PH),res=.agg #[n.v,vi d.2]/\Res dD r d r'/\G.le G'/\RL G' n d.1/\St G' F' (rrS s B br r'::As):=by
 obtain ⟨_,_,T⟩:=Vq;refine Xl ?_;unfold Uv;refine h.new λb2 F1 h=> ?_;refine h.new λb3 F2 h=> ?_;refine h.put0 (w':=zD) rfl rfl (by simp [ai]) λF3 h=> ?_;have h:St G F3 (rrS s B br r::pt b3 (.cells zD 33)::pt b2 (.cells zD 33)::As):=h.front2;refine (f7 K h).mono ?_;rintro _ F4 ⟨m,r1,rfl,hr,hm,hm2,h⟩;have hmB:=fj K h hm hm2;refine ⟨_,rfl,?_⟩;have h:=(h.nilOwn 103 3).swap;refine ⟨λmm i F'=>∃(k:Nat) (G':PH) (sl:Sl) (xs:List Br) (ri:Option Δ),i=(k:Int)/\mm=k/\k<=m/\G.le G'/\xs.length+k=m/\Rk dBr r1 m xs k ri/\St G' F' (rrS s B br ri::own sl 103 3 (aS xs)::pt b3 (.cells #[sl.v,vi 0] 33)::pt b2 (.cells zD 33)::As),m,⟨m,G,Sl.nil,[],r1,rfl,rfl,XA _,am _,by simp,Rk.start,h⟩,?_⟩;rintro mm i F5 ⟨k,G1,sl,xs,ri,rfl,hmm,hk,l1,hx,hR,h⟩;have fin:(k=0\/ri=none)->vY (some (Addr.mk br 0 none)) b2 b3 (λres F'=>∃(n:Sl) (d:Dia) (r':Option Δ) (G':PH),res=.agg #[n.v,vi d.2]/\Res dD r d r'/\G.le G'/\RL G' n d.1/\St G' F' (rrS s B br r'::As)) F5:=λhc=>by unfold vY;refine (ba (K.le l1) h).mono ?_;rintro _ F6 ⟨y,r2,rfl,hres,h⟩;refine ⟨_,rfl,?_⟩;refine h.set2 (w':= #[sl.v,vi y]) (by show 1<2;decide) rfl λF7 h=>⟨#[sl.v,vi y],rfl,h.whole2,?_⟩;refine h.put3 (w':= #[sl.v,vi y]) rfl rfl (by simp [ai,Sl.v]) λF8 h=>⟨_,rfl,h.whole3,?_⟩;obtain ⟨G2,l2,hd,h2⟩:=h.swap.pinO;exact ⟨sl,(xs,y),r2,G2,rfl,(hR.fin hr hc).pair hres,aa l1 l2,RL.brs.2 hd,h2.swap.tail.swap.tail⟩
 unfold IA;refine ⟨λhp=>⟨_,rfl,_,by rw [av];exact h.rbad,λhb=> ?_,λhb=>fin (.inr (by cases ri with|none=>rfl|some l=>cases hb))⟩,λhn=>fin (.inl (by omega))⟩;obtain ⟨li,rfl⟩:∃li,ri=some li:=by cases ri with|none=>cases hb|some l=>exact ⟨l,rfl⟩
 obtain ⟨k,rfl⟩:∃k',k=k'+1:=⟨k - 1,by omega⟩;refine (ba (K.le l1) h).mono ?_;rintro _ Fa ⟨y1,ra,rfl,h1,h⟩;refine ⟨_,rfl,?_⟩;refine (ba (K.le l1) h).mono ?_;rintro _ Fb ⟨y2,rb,rfl,h2,h⟩;refine ⟨_,rfl,_,h.ld2 rfl,?_⟩;refine (ba (K.le l1) h).mono ?_;rintro _ Fc ⟨y3,rc,rfl,h3,h⟩;refine ⟨_,rfl,h.ld2 rfl,rfl,?_⟩;have hsl:sl.len=xs.length:=by have:=(bj.rd (h.ownAt (i:=1) rfl).1).len;rw [lP] at this;omega
 refine h.push1 T (c:=aR ⟨y1,y2,y3⟩) rfl (by simp [ai]) (by omega) λs' G2 F6 l2 h hl'=> ?_;refine h.set2 (w':= #[s'.v,vi 0]) (by show 0<2;decide) rfl λF7 h=> ?_;rw [dW (by omega) (by omega),Yf];refine ⟨k,by omega,k,G2,s',xs++[⟨y1,y2,y3⟩],rc,rfl,rfl,by omega,aa l1 l2,by rw [N3,XJ];omega,hR.step (show Res dBr (some li) ⟨y1,y2,y3⟩ rc from Res.map _ (h1.pair (h2.pair h3))),?_⟩;have e:aS (xs++[⟨y1,y2,y3⟩])=aS xs++(aR ⟨y1,y2,y3⟩).toList:=by unfold aS;rw [XU,Yn];rfl
 rw [e];exact h
end
section
variable {G F:PH} {As:List (Ψ)} {s:Sl} {B:Δ} {br:Nat} {r:Option Δ}
abbrev RQ {α:Type} [Mem α] (G:PH) (s:Sl) (B:Δ) (br:Nat) (As:List (Ψ)) (d:Ps α) (r:Option Δ):VR:=λres F'=>∃(c:Γ) (y:α) (r':Option Δ) (G':PH),res=.agg c/\Res d r y r'/\G.le G'/\Mem.rep G' y c/\St G' F' (rrS s B br r'::As)
theorem Qn (K:Rd G s B) (h:St G F (rrS s B br r::As)):ae prog 55 #[rp br] F (RQ G s B br As dTk r):=by
 obtain ⟨_,_,T⟩:=QE;refine Xn ?_;unfold Ux;refine h.new λb2 F1 h=> ?_;refine (yA K h.swap).mono ?_;rintro _ F2 ⟨y1,ra,rfl,h1,h⟩;refine ⟨_,rfl,?_⟩;refine h.new λb3 F3 h=> ?_;refine h.put0 (w':= #[.string y1,vi 0,.string ⟨#[]⟩,Sl.v Sl.nil,.string ⟨#[]⟩,Sl.v Sl.nil,vi 0]) rfl rfl (by simp [ai,Sl.v]) λF4 h=> ?_;refine (ba K h.swap).mono ?_;rintro _ F5 ⟨y2,rb,rfl,h2,h⟩;refine ⟨_,rfl,?_⟩;refine h.set1 (w':= #[.string y1,vi y2,.string ⟨#[]⟩,Sl.v Sl.nil,.string ⟨#[]⟩,Sl.v Sl.nil,vi 0]) (by show 1<7;decide) rfl λF6 h=> ?_;refine (yA K h).mono ?_;rintro _ F7 ⟨y3,rc,rfl,h3,h⟩;refine ⟨_,rfl,?_⟩;refine h.set1 (w':= #[.string y1,vi y2,.string y3,Sl.v Sl.nil,.string ⟨#[]⟩,Sl.v Sl.nil,vi 0]) (by show 2<7;decide) rfl λF8 h=> ?_;refine (f7 K h).mono ?_;rintro _ F9 ⟨m,r1,rfl,hr,hm,hm2,h⟩;have hmB:=fj K h hm hm2;refine ⟨_,rfl,?_⟩;have h:=(h.nilOwn 97 5).swap;refine ⟨λmm i F'=>∃(k:Nat) (G':PH) (sl:Sl) (xs:List Nd) (ri:Option Δ),i=(k:Int)/\mm=k/\k<=m/\G.le G'/\xs.length+k=m/\Rk dNd r1 m xs k ri/\St G' F' (rrS s B br ri::own sl 97 5 (cX xs)::pt b3 (.cells #[.string y1,vi y2,.string y3,sl.v,.string ⟨#[]⟩,Sl.v Sl.nil,vi 0] 79)::pt b2 (.cells zT 79)::As),m,⟨m,G,Sl.nil,[],r1,rfl,rfl,XA _,am _,by simp,Rk.start,h⟩,?_⟩;rintro mm i F5 ⟨k,G1,sl,xs,ri,rfl,hmm,hk,l1,hx,hR,h⟩;have fin:(k=0\/ri=none)->vZ (some (Addr.mk br 0 none)) b2 b3 (RQ G s B br As dTk r) F5:=λhc=>by unfold vZ;refine (yA (K.le l1) h).mono ?_;rintro _ F6 ⟨y4,rd,rfl,h4,h⟩;refine ⟨_,rfl,?_⟩;refine h.set2 (w':= #[.string y1,vi y2,.string y3,sl.v,.string y4,Sl.v Sl.nil,vi 0]) (by show 4<7;decide) rfl λF7 h=> ?_;refine (Ja (K.le l1) h).mono ?_;rintro _ F8 ⟨n,d,re,G2,rfl,h5,l2,hn,h⟩;refine ⟨_,rfl,?_⟩;refine h.putR2 (w':= #[.string y1,vi y2,.string y3,sl.v,.string y4,n.v,vi d.2]) rfl (by simp [ai,Sl.v]) (by show 5+2<=7;decide) rfl λF9 h=>⟨_,rfl,h.whole2,?_⟩;refine h.put3 (w':= #[.string y1,vi y2,.string y3,sl.v,.string y4,n.v,vi d.2]) rfl rfl (by simp [ai,Sl.v]) λFa h=>⟨_,rfl,h.whole3,?_⟩;obtain ⟨G3,l3,hd,h6⟩:=h.swap.pinO;exact ⟨_,⟨y1,y2,y3,xs,y4,d⟩,re,G3,rfl,Res.map _ (h1.pair (h2.pair (h3.pair ((hR.fin hr hc).pair (h4.pair h5))))),aa l1 (aa l2 l3),⟨sl,n,rfl,RL.nds.2 hd,hn.le l3⟩,h6.swap.tail.swap.tail⟩
 unfold IB;refine ⟨λhp=>⟨_,rfl,_,by rw [av];exact h.rbad,λhb=> ?_,λhb=>fin (.inr (by cases ri with|none=>rfl|some l=>cases hb))⟩,λhn=>fin (.inl (by omega))⟩;obtain ⟨li,rfl⟩:∃li,ri=some li:=by cases ri with|none=>cases hb|some l=>exact ⟨l,rfl⟩
 obtain ⟨k,rfl⟩:∃k',k=k'+1:=⟨k - 1,by omega⟩;have K:=K.le l1;refine (ba K h).mono ?_;rintro _ Fa ⟨z1,ra,rfl,g1,h⟩;refine ⟨_,rfl,?_⟩;refine h.new λb5 Fb h=> ?_;refine h.put0 (w':= #[vi z1,vi 0,vi 0,vi 0,vi 0]) rfl rfl (by simp [ai]) λFc h=> ?_;refine (ba K h.swap).mono ?_;rintro _ Fd ⟨z2,rb,rfl,g2,h⟩;refine ⟨_,rfl,h.set1 (w':= #[vi z1,vi z2,vi 0,vi 0,vi 0]) (by show 1<5;decide) rfl λFe h=> ?_⟩;refine (ba K h).mono ?_;rintro _ Fd ⟨z3,rc,rfl,g3,h⟩;refine ⟨_,rfl,h.set1 (w':= #[vi z1,vi z2,vi z3,vi 0,vi 0]) (by show 2<5;decide) rfl λFe h=> ?_⟩;refine (ba K h).mono ?_;rintro _ Fd ⟨z4,rd,rfl,g4,h⟩;refine ⟨_,rfl,h.set1 (w':= #[vi z1,vi z2,vi z3,vi z4,vi 0]) (by show 3<5;decide) rfl λFe h=> ?_⟩;refine (ba K h).mono ?_;rintro _ Fd ⟨z5,re,rfl,g5,h⟩;refine ⟨_,rfl,h.set1 (w':= #[vi z1,vi z2,vi z3,vi z4,vi z5]) (by show 4<5;decide) rfl λFe h=> ?_⟩;refine ⟨_,h.ld3 rfl,_,rfl,h.whole1,rfl,?_⟩;have h:=h.swap.tail;have hsl:sl.len=xs.length:=by have:=(RL.nds.2 (bj.rd (h.ownAt (i:=1) rfl).1)).len (by decide);exact this
 refine h.push1 T (c:=Nd.arr ⟨z1,z2,z3,z4,z5⟩) rfl (by simp [ai]) (by omega) λs' G2 F6 l2 h hl'=> ?_;refine h.set2 (w':= #[.string y1,vi y2,.string y3,s'.v,.string ⟨#[]⟩,Sl.v Sl.nil,vi 0]) (by show 3<7;decide) rfl λF7 h=> ?_;rw [dW (by omega) (by omega),Yf];refine ⟨k,by omega,k,G2,s',xs++[⟨z1,z2,z3,z4,z5⟩],re,rfl,rfl,by omega,aa l1 l2,by rw [N3,XJ];omega,hR.step (show Res dNd (some li) ⟨z1,z2,z3,z4,z5⟩ re from Res.map _ (g1.pair (g2.pair (g3.pair (g4.pair g5))))),?_⟩;have e:cX (xs++[⟨z1,z2,z3,z4,z5⟩])=cX xs++(Nd.arr ⟨z1,z2,z3,z4,z5⟩).toList:=by unfold cX;rw [XU,Yn];rfl
 rw [e];exact h
end
section
variable {G F:PH} {As:List (Ψ)} {s:Sl} {B:Δ} {br:Nat} {r:Option Δ}
abbrev fiA (a b c d e f:Int) (t n:Sl) (o:Int):Γ:= #[vi a,vi b,vi c,vi d,vi e,vi f,t.v,n.v,vi o]
theorem Lm (K:Rd G s B) (h:St G F (rrS s B br r::As)):ae prog 59 #[rp br] F (RQ G s B br As dFi r):=by refine Xr ?_;unfold UB;refine h.new λb2 F1 h=> ?_;refine (ba K h.swap).mono ?_;rintro _ F2 ⟨y1,ra,rfl,h1,h⟩;refine ⟨_,rfl,?_⟩;refine h.new λb3 F3 h=> ?_;refine h.put0 (w':=fiA y1 0 0 0 0 0 Sl.nil Sl.nil 0) rfl rfl (by simp [ai,Sl.v]) λF4 h=> ?_;refine (ba K h.swap).mono ?_;rintro _ F5 ⟨y2,rb,rfl,h2,h⟩;refine ⟨_,rfl,h.set1 (w':=fiA y1 y2 0 0 0 0 Sl.nil Sl.nil 0) (by show 1<9;decide) rfl λF6 h=> ?_⟩;refine (ba K h).mono ?_;rintro _ F5 ⟨y3,rc,rfl,h3,h⟩;refine ⟨_,rfl,h.set1 (w':=fiA y1 y2 y3 0 0 0 Sl.nil Sl.nil 0) (by show 2<9;decide) rfl λF6 h=> ?_⟩;refine (ba K h).mono ?_;rintro _ F5 ⟨y4,rd,rfl,h4,h⟩;refine ⟨_,rfl,h.set1 (w':=fiA y1 y2 y3 y4 0 0 Sl.nil Sl.nil 0) (by show 3<9;decide) rfl λF6 h=> ?_⟩;refine (ba K h).mono ?_;rintro _ F5 ⟨y5,re,rfl,h5,h⟩;refine ⟨_,rfl,h.set1 (w':=fiA y1 y2 y3 y4 y5 0 Sl.nil Sl.nil 0) (by show 4<9;decide) rfl λF6 h=> ?_⟩;refine (ba K h).mono ?_;rintro _ F5 ⟨y6,rf,rfl,h6,h⟩;refine ⟨_,rfl,h.set1 (w':=fiA y1 y2 y3 y4 y5 y6 Sl.nil Sl.nil 0) (by show 5<9;decide) rfl λF6 h=> ?_⟩;refine (Oo K h).mono ?_;rintro _ F5 ⟨t,y7,rg,G1,rfl,h7,l1,ht,h⟩;refine ⟨_,rfl,h.set1 (w':=fiA y1 y2 y3 y4 y5 y6 t Sl.nil 0) (by show 6<9;decide) rfl λF6 h=> ?_⟩;refine (Ja (K.le l1) h).mono ?_;rintro _ F5 ⟨n,y8,rh,G2,rfl,h8,l2,hn,h⟩;refine ⟨_,rfl,?_⟩;refine h.putR1 (w':=fiA y1 y2 y3 y4 y5 y6 t n y8.2) rfl (by simp [ai,Sl.v]) (by show 7+2<=9;decide) rfl λF6 h=>⟨_,rfl,h.whole1,?_⟩;refine h.put2 (w':=fiA y1 y2 y3 y4 y5 y6 t n y8.2) rfl rfl (by simp [ai,Sl.v]) λFa h=>⟨_,rfl,h.whole2,?_⟩;exact ⟨_,⟨y1,y2,y3,y4,y5,y6,y7,y8⟩,rh,G2,rfl,Res.map _ (h1.pair (h2.pair (h3.pair (h4.pair (h5.pair (h6.pair (h7.pair h8))))))),aa l1 l2,⟨t,n,rfl,ht.le l2,hn⟩,h.swap.tail.swap.tail⟩
end
end Go.Proofs.YtenpmjhnhepfdaaGreatDoor

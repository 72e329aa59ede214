/-
  Reads and writes of parts, by position. Printed by a program (mkHc.py).
-/
import Derived.Test.YtenpmjhnhepfdaaGreatDoorHb
namespace Go.Proofs.YtenpmjhnhepfdaaGreatDoor
open Go Go.Proofs.Tryz
namespace St
section
variable {G F:PH} {As:List (PH->Prop)} {b:Nat} {w:Array Value} {e:TypeId}
theorem ld0 (h:St G F (pt b (.cells w e)::As)) {i:Nat} {v:Value} (hv:w[i]? =some v):F.cell (Addr.mk b i none)=some v:=ld (h.ptAt (i:=0) rfl) hv
theorem row0 (h:St G F (pt b (.cells w e)::As)) {o:Nat} {d:Array Value} (hd:(w.toList.drop o).take d.size=d.toList):F.row (Addr.mk b o none) d:=dP (h.ptAt (i:=0) rfl) hd
theorem whole0 (h:St G F (pt b (.cells w e)::As)):F.row (Addr.mk b 0 none) w:=aj (h.ptAt (i:=0) rfl)
theorem put0 (h:St G F (pt b (.cells w e)::As)) {n:Nat} {w':Array Value} (h1:w'.size=n) (h2:w.size=n) (hst:∀v∈w'.toList,ai v) {K:PH->Prop} (kk:∀F',St G F' (pt b (.cells w' e)::As)->K F'):
  au F (Addr.mk b 0 none) n w' K:=stW (h.ptAt (i:=0) rfl) h1 h2 hst (kk _ (h.putAt 0 _ rfl))
theorem set0 (h:St G F (pt b (.cells w e)::As)) {i:Nat} {v:Value} {w':Array Value} (hi:i<w.size) (hw:w.setIfInBounds i v=w') {K:PH->Prop} (kk:∀F',St G F' (pt b (.cells w' e)::As)->K F'):
  sto F (Addr.mk b i none) v K:=st1 (h.ptAt (i:=0) rfl) hi (by subst hw;exact kk _ (h.putAt 0 _ rfl))
theorem putR0 (h:St G F (pt b (.cells w e)::As)) {o n:Nat} {v w':Array Value} (h1:v.size=n) (hst:∀x∈v.toList,ai x) (hs:o+n<=w.size) (hw:wr w o v.toList=w') {K:PH->Prop} (kk:∀F',St G F' (pt b (.cells w' e)::As)->K F'):
  au F (Addr.mk b o none) n v K:=⟨h1,hst,w,e,h.ptAt (i:=0) rfl,rfl,hs,atI (by subst hw;exact kk _ (h.putAt 0 _ rfl))⟩
theorem ld1 {p0:PH->Prop} (h:St G F (p0::pt b (.cells w e)::As)) {i:Nat} {v:Value} (hv:w[i]? =some v):F.cell (Addr.mk b i none)=some v:=ld (h.ptAt (i:=1) rfl) hv
theorem whole1 {p0:PH->Prop} (h:St G F (p0::pt b (.cells w e)::As)):F.row (Addr.mk b 0 none) w:=aj (h.ptAt (i:=1) rfl)
theorem put1 {p0:PH->Prop} (h:St G F (p0::pt b (.cells w e)::As)) {n:Nat} {w':Array Value} (h1:w'.size=n) (h2:w.size=n) (hst:∀v∈w'.toList,ai v) {K:PH->Prop} (kk:∀F',St G F' (p0::pt b (.cells w' e)::As)->K F'):
  au F (Addr.mk b 0 none) n w' K:=stW (h.ptAt (i:=1) rfl) h1 h2 hst (kk _ (h.putAt 1 _ rfl))
theorem set1 {p0:PH->Prop} (h:St G F (p0::pt b (.cells w e)::As)) {i:Nat} {v:Value} {w':Array Value} (hi:i<w.size) (hw:w.setIfInBounds i v=w') {K:PH->Prop} (kk:∀F',St G F' (p0::pt b (.cells w' e)::As)->K F'):
  sto F (Addr.mk b i none) v K:=st1 (h.ptAt (i:=1) rfl) hi (by subst hw;exact kk _ (h.putAt 1 _ rfl))
theorem putR1 {p0:PH->Prop} (h:St G F (p0::pt b (.cells w e)::As)) {o n:Nat} {v w':Array Value} (h1:v.size=n) (hst:∀x∈v.toList,ai x) (hs:o+n<=w.size) (hw:wr w o v.toList=w') {K:PH->Prop} (kk:∀F',St G F' (p0::pt b (.cells w' e)::As)->K F'):
  au F (Addr.mk b o none) n v K:=⟨h1,hst,w,e,h.ptAt (i:=1) rfl,rfl,hs,atI (by subst hw;exact kk _ (h.putAt 1 _ rfl))⟩
theorem front1 {p0:PH->Prop} {A:PH->Prop} (h:St G F (p0::A::As)):St G F (A::p0::As):=by
 refine h.pick (fun i=>if i=0 then 1 else if i<=1 then i - 1 else i) (fun i j _ _ e=> ?_) (fun i _=> ?_)
 ·repeat' split at e
  all_goals omega
 ·match i with
  |0=>rfl
  |1=>rfl
  |i+2=>rfl
theorem ld2 {p0 p1:PH->Prop} (h:St G F (p0::p1::pt b (.cells w e)::As)) {i:Nat} {v:Value} (hv:w[i]? =some v):F.cell (Addr.mk b i none)=some v:=ld (h.ptAt (i:=2) rfl) hv
theorem whole2 {p0 p1:PH->Prop} (h:St G F (p0::p1::pt b (.cells w e)::As)):F.row (Addr.mk b 0 none) w:=aj (h.ptAt (i:=2) rfl)
theorem put2 {p0 p1:PH->Prop} (h:St G F (p0::p1::pt b (.cells w e)::As)) {n:Nat} {w':Array Value} (h1:w'.size=n) (h2:w.size=n) (hst:∀v∈w'.toList,ai v) {K:PH->Prop} (kk:∀F',St G F' (p0::p1::pt b (.cells w' e)::As)->K F'):
  au F (Addr.mk b 0 none) n w' K:=stW (h.ptAt (i:=2) rfl) h1 h2 hst (kk _ (h.putAt 2 _ rfl))
theorem set2 {p0 p1:PH->Prop} (h:St G F (p0::p1::pt b (.cells w e)::As)) {i:Nat} {v:Value} {w':Array Value} (hi:i<w.size) (hw:w.setIfInBounds i v=w') {K:PH->Prop} (kk:∀F',St G F' (p0::p1::pt b (.cells w' e)::As)->K F'):
  sto F (Addr.mk b i none) v K:=st1 (h.ptAt (i:=2) rfl) hi (by subst hw;exact kk _ (h.putAt 2 _ rfl))
theorem ld3 {p0 p1 p2:PH->Prop} (h:St G F (p0::p1::p2::pt b (.cells w e)::As)) {i:Nat} {v:Value} (hv:w[i]? =some v):F.cell (Addr.mk b i none)=some v:=ld (h.ptAt (i:=3) rfl) hv
theorem put3 {p0 p1 p2:PH->Prop} (h:St G F (p0::p1::p2::pt b (.cells w e)::As)) {n:Nat} {w':Array Value} (h1:w'.size=n) (h2:w.size=n) (hst:∀v∈w'.toList,ai v) {K:PH->Prop} (kk:∀F',St G F' (p0::p1::p2::pt b (.cells w' e)::As)->K F'):
  au F (Addr.mk b 0 none) n w' K:=stW (h.ptAt (i:=3) rfl) h1 h2 hst (kk _ (h.putAt 3 _ rfl))
theorem set3 {p0 p1 p2:PH->Prop} (h:St G F (p0::p1::p2::pt b (.cells w e)::As)) {i:Nat} {v:Value} {w':Array Value} (hi:i<w.size) (hw:w.setIfInBounds i v=w') {K:PH->Prop} (kk:∀F',St G F' (p0::p1::p2::pt b (.cells w' e)::As)->K F'):
  sto F (Addr.mk b i none) v K:=st1 (h.ptAt (i:=3) rfl) hi (by subst hw;exact kk _ (h.putAt 3 _ rfl))
theorem ld4 {p0 p1 p2 p3:PH->Prop} (h:St G F (p0::p1::p2::p3::pt b (.cells w e)::As)) {i:Nat} {v:Value} (hv:w[i]? =some v):F.cell (Addr.mk b i none)=some v:=ld (h.ptAt (i:=4) rfl) hv
theorem whole4 {p0 p1 p2 p3:PH->Prop} (h:St G F (p0::p1::p2::p3::pt b (.cells w e)::As)):F.row (Addr.mk b 0 none) w:=aj (h.ptAt (i:=4) rfl)
theorem put4 {p0 p1 p2 p3:PH->Prop} (h:St G F (p0::p1::p2::p3::pt b (.cells w e)::As)) {n:Nat} {w':Array Value} (h1:w'.size=n) (h2:w.size=n) (hst:∀v∈w'.toList,ai v) {K:PH->Prop} (kk:∀F',St G F' (p0::p1::p2::p3::pt b (.cells w' e)::As)->K F'):
  au F (Addr.mk b 0 none) n w' K:=stW (h.ptAt (i:=4) rfl) h1 h2 hst (kk _ (h.putAt 4 _ rfl))
theorem set4 {p0 p1 p2 p3:PH->Prop} (h:St G F (p0::p1::p2::p3::pt b (.cells w e)::As)) {i:Nat} {v:Value} {w':Array Value} (hi:i<w.size) (hw:w.setIfInBounds i v=w') {K:PH->Prop} (kk:∀F',St G F' (p0::p1::p2::p3::pt b (.cells w' e)::As)->K F'):
  sto F (Addr.mk b i none) v K:=st1 (h.ptAt (i:=4) rfl) hi (by subst hw;exact kk _ (h.putAt 4 _ rfl))
theorem ld5 {p0 p1 p2 p3 p4:PH->Prop} (h:St G F (p0::p1::p2::p3::p4::pt b (.cells w e)::As)) {i:Nat} {v:Value} (hv:w[i]? =some v):F.cell (Addr.mk b i none)=some v:=ld (h.ptAt (i:=5) rfl) hv
theorem put5 {p0 p1 p2 p3 p4:PH->Prop} (h:St G F (p0::p1::p2::p3::p4::pt b (.cells w e)::As)) {n:Nat} {w':Array Value} (h1:w'.size=n) (h2:w.size=n) (hst:∀v∈w'.toList,ai v) {K:PH->Prop} (kk:∀F',St G F' (p0::p1::p2::p3::p4::pt b (.cells w' e)::As)->K F'):
  au F (Addr.mk b 0 none) n w' K:=stW (h.ptAt (i:=5) rfl) h1 h2 hst (kk _ (h.putAt 5 _ rfl))
theorem set5 {p0 p1 p2 p3 p4:PH->Prop} (h:St G F (p0::p1::p2::p3::p4::pt b (.cells w e)::As)) {i:Nat} {v:Value} {w':Array Value} (hi:i<w.size) (hw:w.setIfInBounds i v=w') {K:PH->Prop} (kk:∀F',St G F' (p0::p1::p2::p3::p4::pt b (.cells w' e)::As)->K F'):
  sto F (Addr.mk b i none) v K:=st1 (h.ptAt (i:=5) rfl) hi (by subst hw;exact kk _ (h.putAt 5 _ rfl))
theorem putR5 {p0 p1 p2 p3 p4:PH->Prop} (h:St G F (p0::p1::p2::p3::p4::pt b (.cells w e)::As)) {o n:Nat} {v w':Array Value} (h1:v.size=n) (hst:∀x∈v.toList,ai x) (hs:o+n<=w.size) (hw:wr w o v.toList=w') {K:PH->Prop} (kk:∀F',St G F' (p0::p1::p2::p3::p4::pt b (.cells w' e)::As)->K F'):
  au F (Addr.mk b o none) n v K:=⟨h1,hst,w,e,h.ptAt (i:=5) rfl,rfl,hs,atI (by subst hw;exact kk _ (h.putAt 5 _ rfl))⟩
theorem ld6 {p0 p1 p2 p3 p4 p5:PH->Prop} (h:St G F (p0::p1::p2::p3::p4::p5::pt b (.cells w e)::As)) {i:Nat} {v:Value} (hv:w[i]? =some v):F.cell (Addr.mk b i none)=some v:=ld (h.ptAt (i:=6) rfl) hv
theorem whole6 {p0 p1 p2 p3 p4 p5:PH->Prop} (h:St G F (p0::p1::p2::p3::p4::p5::pt b (.cells w e)::As)):F.row (Addr.mk b 0 none) w:=aj (h.ptAt (i:=6) rfl)
theorem set6 {p0 p1 p2 p3 p4 p5:PH->Prop} (h:St G F (p0::p1::p2::p3::p4::p5::pt b (.cells w e)::As)) {i:Nat} {v:Value} {w':Array Value} (hi:i<w.size) (hw:w.setIfInBounds i v=w') {K:PH->Prop} (kk:∀F',St G F' (p0::p1::p2::p3::p4::p5::pt b (.cells w' e)::As)->K F'):
  sto F (Addr.mk b i none) v K:=st1 (h.ptAt (i:=6) rfl) hi (by subst hw;exact kk _ (h.putAt 6 _ rfl))
end
end St
end Go.Proofs.YtenpmjhnhepfdaaGreatDoor

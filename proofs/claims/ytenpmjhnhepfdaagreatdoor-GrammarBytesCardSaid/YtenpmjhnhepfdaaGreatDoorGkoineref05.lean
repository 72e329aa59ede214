/-
  What functions of the program do, in a clean form, each with the proof that its code does so. Printed by a program.
-/
import Derived.Test.YtenpmjhnhepfdaaGreatDoorPhp
import Derived.Test.YtenpmjhnhepfdaaGreatDoorPhz
namespace Go.Proofs.YtenpmjhnhepfdaaGreatDoor
open Go Go.Proofs.Tryz
variable {R:VR} {F:PH}
set_option maxRecDepth 10000
set_option maxHeartbeats 4000000
def pv (b2 b4:Nat) (R:VR) (F:PH):Prop:=
 Lr F 9 (Am b4 0) fun v_98=>
 aA F (Am b2 0) 9 v_98 fun F=>
 Rr 9 (Am b2 0) R F
def wU (N1:Int→PH→Prop) (b1 b2 b4:Nat) (R:VR) (i_8:Int) (F:PH):Prop:=
 Ls F (Am b1 4) fun v_82=>
 (Bc (i_8<(v_82.len:Int)) (
  (Bc (i_8<6) (
   Lr F 9 (Am b4 0) fun v_91=>
   Ls F (Am b1 4) fun v_93=>
   Ix v_93 i_8 fun a95_=>
   Lr F 5 (Addr.add a95_ (Int.toNat i_8*5)) fun v_96=>
   Ca 42 #[(.agg v_91),(.agg v_96)] F fun v_97 F=>
   F.cell (Am b1 4)=some (Sl.v v_93)∧aA F (Am b4 0) 9 v_97 fun F=>
   N1 (IntKind.i64.wrap (i_8+1)) F) (
   pv b2 b4 R F))) (
  pv b2 b4 R F))
def px (b1 b2 b4:Nat) (R:VR) (F:PH):Prop:=
 (Lp 0 F fun N i_8 F=>
  wU N b1 b2 b4 R i_8 F)
def wV (N2:Int→PH→Prop) (b1 b2:Nat) (v_10:Int) (b4:Nat) (most_5:Int) (R:VR) (i_7:Int) (F:PH):Prop:=
 Ls F (Am b1 3) fun v_62=>
 (Bc (i_7<(v_62.len:Int)) (
  (Bc (i_7<most_5) (
   Lr F 9 (Am b4 0) fun v_72=>
   Ls F (Am b1 3) fun v_74=>
   Ix v_74 i_7 fun a76_=>
   Lr F 4 (Addr.add a76_ (Int.toNat i_7*4)) fun v_77=>
   Ca 41 #[(.agg v_72),(.agg v_77),(.bool (decide ((Int.tmod v_10 8)<6)))] F fun v_79 F=>
   F.cell (Am b1 3)=some (Sl.v v_74)∧aA F (Am b4 0) 9 v_79 fun F=>
   N2 (IntKind.i64.wrap (i_7+1)) F) (
   px b1 b2 b4 R F))) (
  px b1 b2 b4 R F))
def tj (b1 b2:Nat) (v_10:Int) (b4:Nat) (most_5:Int) (R:VR) (F:PH):Prop:=
 (Lp 0 F fun N i_7 F=>
  wV N b1 b2 v_10 b4 most_5 R i_7 F)
def py (b1 b2:Nat) (v_10:Int) (b4:Nat) (most_5:Int) (b6:Nat) (v_57:Bool) (R:VR) (F:PH):Prop:=
 (Bb (v_57) (
  Lr F 2 (Am b6 0) fun v_58=>
  aA F (Am b4 1) 2 v_58 fun F=>
  tj b1 b2 v_10 b4 most_5 R F) (
  tj b1 b2 v_10 b4 most_5 R F))
def tn (b1 b2:Nat) (v_10:Int) (b4:Nat) (most_5:Int) (R:VR) (F:PH):Prop:=
 Ls F (Am b1 2) fun v_44=>
 Ls F (Am b4 0) fun v_46=>
 Ca 35 #[(Sl.v v_44),(.int .i64 (v_46.len:Int))] F fun v_48 F=>
 Nb F (.cells zD 33) fun b6 F=>
 aA F (Am b6 0) 2 v_48 fun F=>
 Ls F (Am b1 2) fun v_50=>
 (Bc ((0:Int)<(v_50.len:Int)) (
  Li F (Am b6 1) fun v_55=>
  py b1 b2 v_10 b4 most_5 b6 (decide (v_55≠0)) R F) (
  py b1 b2 v_10 b4 most_5 b6 false R F))
def NS (x_0:Array Value) (R:VR) (F:PH):Prop:=
 Nb F (.cells x_0 26) fun b1 F=>
 Nb F (.cells zG 39) fun b2 F=>
 Lk F .u8 (Am b1 0) fun v_10=>
 Lk F .u8 (Am b1 0) fun v_14=>
 Ca 37 #[(.int .u8 (Int.tmod v_14 8))] F fun v_16 F=>
 Nb F (.cells zG 39) fun b4 F=>
 aA F (Am b4 0) 9 v_16 fun F=>
 (Bc (¬((Int.tmod v_10 8)<6)) (
  Nb F (.cells #[(.string ⟨#[83]⟩),(.string ⟨#[80]⟩),(.string ⟨#[81]⟩)] 9) fun b19 F=>
  Lk F .u8 (Am b1 1) fun v_21=>
  0≤(IntKind.i64.wrap (1+(Int.tmod (IntKind.i64.wrap (IntKind.u8.wrap (Int.tdiv v_21 4))) 3)))∧0≤(Int.toNat (IntKind.i64.wrap (1+(Int.tmod (IntKind.i64.wrap (IntKind.u8.wrap (Int.tdiv v_21 4))) 3))))∧(Int.toNat (IntKind.i64.wrap (1+(Int.tmod (IntKind.i64.wrap (IntKind.u8.wrap (Int.tdiv v_21 4))) 3))))≤(Sb b19 3).cap∧
  Ca 38 #[(Sl.v (Sl.cut (Sb b19 3) 1 0 (Int.toNat (IntKind.i64.wrap (1+(Int.tmod (IntKind.i64.wrap (IntKind.u8.wrap (Int.tdiv v_21 4))) 3)))) (Sb b19 3).cap))] F fun v_27 F=>
  aA F (Am b4 0) 9 v_27 fun F=>
  Nb F (.cells #[(.string ⟨#[65]⟩),(.string ⟨#[66]⟩),(.string ⟨#[67]⟩)] 9) fun b28 F=>
  Lk F .u8 (Am b1 1) fun v_30=>
  0≤(IntKind.i64.wrap (Int.tmod v_30 4))∧0≤(Int.toNat (IntKind.i64.wrap (Int.tmod v_30 4)))∧(Int.toNat (IntKind.i64.wrap (Int.tmod v_30 4)))≤(Sb b28 3).cap∧
  sto F (Am b4 0) (Sl.v (Sl.cut (Sb b28 3) 1 0 (Int.toNat (IntKind.i64.wrap (Int.tmod v_30 4))) (Sb b28 3).cap)) fun F=>
  Ls F (Am b4 5) fun v_36=>
  Ca 40 #[(.int .i64 0)] F fun v_37 F=>
  F.cell (Am b4 5)=some (Sl.v v_36)∧v_37.size=2∧Nb F (.cells v_37 69) fun b38 F=>
  Ca 39 #[(.string ⟨#[102,105,114,115,116]⟩),(.int .i64 0),(Sl.v (Sb b38 1))] F fun v_39 F=>
  F.cell (Am b4 5)=some (Sl.v v_36)∧v_39.size=13∧Nb F (.cells v_39 67) fun b40 F=>
  Ap 35 #[(Sl.v v_36),(Sl.v (Sb b40 1))] F fun v_41 F=>
  sto F (Am b4 5) (Sl.v v_41) fun F=>
  tn b1 b2 v_10 b4 10 R F) (
  tn b1 b2 v_10 b4 6 R F))
theorem Qy {x_0:Array Value} (h:NS x_0 R F):ac prog 13 #[(.agg x_0)] F R:=Rx.sxC (args:=[(.agg x_0)]) (.T .N (.T .N (.T .N (.T .N (.J false [(5,.int .i64)] .N (.T .N (.J false [] (.J false [(57,.bool)] .N .N) (.J false [] (.T .N (.L [(7,.int .i64)] .N)) (.J false [] (.T .N (.L [(8,.int .i64)] .N)) .N))))))))) (by kernel_rfl) h
def tp (b_0 n_1:Int) (b4:Nat) (v_12:Bool) (R:VR) (F:PH):Prop:=
 (Bb (v_12) (
  Ca 89 #[(.bool true)] F fun v_13 F=>
  aA F (Am b4 0) 2 v_13 fun F=>
  Rr 2 (Am b4 0) R F) (
  n_1≠0∧Ca 96 #[(.int .i64 (Int.tmod (IntKind.i64.wrap (IntKind.u8.wrap (Int.tdiv b_0 6))) n_1))] F fun v_19 F=>
  Nb F (.cells zD 33) fun b5 F=>
  aA F (Am b5 0) 2 v_19 fun F=>
  (Bc ((Int.tmod b_0 6)=3) (
   Lr F 2 (Am b5 0) fun v_24=>
   aA F (Am b4 0) 2 v_24 fun F=>
   Rr 2 (Am b4 0) R F) (
   (Bc ((Int.tmod b_0 6)=4) (
    Lr F 2 (Am b5 0) fun v_27=>
    Ca 97 #[(.agg v_27)] F fun v_28 F=>
    aA F (Am b4 0) 2 v_28 fun F=>
    Rr 2 (Am b4 0) R F) (
    Nb F (.cells #[(.int .u8 b_0)] 5) fun b30 F=>
    Ca 35 #[(Sl.v (Sb b30 1)),(.int .i64 n_1)] F fun v_32 F=>
    aA F (Am b4 0) 2 v_32 fun F=>
    Rr 2 (Am b4 0) R F))))))
def NT (b_0 n_1:Int) (R:VR) (F:PH):Prop:=
 Nb F (.cells zD 33) fun b4 F=>
 (Bc (n_1=0) (
  tp b_0 n_1 b4 true R F) (
  tp b_0 n_1 b4 (decide ((Int.tmod b_0 6)<3)) R F))
theorem Qz {b_0:Int} {n_1:Int} (h:NT b_0 n_1 R F):ac prog 28 #[(.int .u8 b_0),(.int .i64 n_1)] F R:=Rx.sxC (args:=[(.int .u8 b_0),(.int .i64 n_1)]) (.T .N (.T (.J false [(12,.bool)] .N .N) .N)) (by kernel_rfl) h
def NU (k_0:Int) (R:VR) (F:PH):Prop:=
 Nb F (.cells zG 39) fun b2 F=>
 (Bc ((Int.tmod k_0 6)=0) (
  Ca 107 #[] F fun v_7 F=>
  aA F (Am b2 0) 9 v_7 fun F=>
  Rr 9 (Am b2 0) R F) (
  (Bc ((Int.tmod k_0 6)=1) (
   Ca 108 #[] F fun v_10 F=>
   aA F (Am b2 0) 9 v_10 fun F=>
   Rr 9 (Am b2 0) R F) (
   (Bc ((Int.tmod k_0 6)=2) (
    Ca 109 #[] F fun v_13 F=>
    aA F (Am b2 0) 9 v_13 fun F=>
    Rr 9 (Am b2 0) R F) (
    (Bc ((Int.tmod k_0 6)=3) (
     Ca 110 #[] F fun v_16 F=>
     aA F (Am b2 0) 9 v_16 fun F=>
     Rr 9 (Am b2 0) R F) (
     (Bc ((Int.tmod k_0 6)=4) (
      Ca 111 #[] F fun v_19 F=>
      aA F (Am b2 0) 9 v_19 fun F=>
      Rr 9 (Am b2 0) R F) (
      Ca 112 #[] F fun v_20 F=>
      aA F (Am b2 0) 9 v_20 fun F=>
      Rr 9 (Am b2 0) R F))))))))))
theorem QA {k_0:Int} (h:NU k_0 R F):ac prog 37 #[(.int .u8 k_0)] F R:=Rx.sxC (args:=[(.int .u8 k_0)]) .N (by kernel_rfl) h
def NW (nonterminals_0:Sl) (R:VR) (F:PH):Prop:=
 Nb F (.cells zG 39) fun b2 F=>
 Ca 89 #[(.bool true)] F fun v_4 F=>
 Nb F (.cells zD 33) fun b3 F=>
 aA F (Am b3 0) 2 v_4 fun F=>
 Lr F 2 (Am b3 0) fun v_6=>
 ((Nb F (.cells #[(.string ⟨#[65]⟩),(.string ⟨#[66]⟩)] 9) fun b5 F=>
 Cs 113 #[] F fun v_7 F=>
 F.row (Am b3 0) v_6∧v_6.size=2∧aA F (Am b2 0) 9 (Array.setIfInBounds (Array.setIfInBounds (wr (Array.setIfInBounds zG 0 (Sl.v (Sb b5 2))) 1 v_6.toList) 3 (Sl.v v_7)) 4 (Sl.v nonterminals_0)) fun F=>
 Rr 9 (Am b2 0) R F)∧
 (Cs 113 #[] F fun v_7_1 F=>
 F.row (Am b3 0) v_6∧Nb F (.cells #[(.string ⟨#[65]⟩),(.string ⟨#[66]⟩)] 9) fun b5_1 F=>
 v_6.size=2∧aA F (Am b2 0) 9 (Array.setIfInBounds (Array.setIfInBounds (wr (Array.setIfInBounds zG 0 (Sl.v (Sb b5_1 2))) 1 v_6.toList) 3 (Sl.v v_7_1)) 4 (Sl.v nonterminals_0)) fun F=>
 Rr 9 (Am b2 0) R F))
theorem QB {nonterminals_0:Sl} (h:NW nonterminals_0 R F):ac prog 38 #[(Sl.v nonterminals_0)] F R:=Rx.sxC (args:=[(Sl.v nonterminals_0)]) .N (by kernel_rfl) h
def JY (name_0:ByteArray) (left_1:Int) (right_2:Sl) (R:VR) (F:PH):Prop:=
 Nb F (.cells zP 67) fun b6 F=>
 Ca 89 #[(.bool true)] F fun v_10 F=>
 v_10.size=2∧aA F (Am b6 0) 13 (wr (Array.setIfInBounds (Array.setIfInBounds (Array.setIfInBounds zP 0 (.string name_0)) 1 (.int .i64 left_1)) 2 (Sl.v right_2)) 3 v_10.toList) fun F=>
 Rr 13 (Am b6 0) R F
theorem NX {name_0:ByteArray} {left_1:Int} {right_2:Sl} (h:JY name_0 left_1 right_2 R F):ac prog 39 #[(.string name_0),(.int .i64 left_1),(Sl.v right_2)] F R:=Rx.sxC (args:=[(.string name_0),(.int .i64 left_1),(Sl.v right_2)]) .N (by kernel_rfl) h
def NY (i_0:Int) (R:VR) (F:PH):Prop:=
 Nb F (.cells (#[.bool false,.int .i64 0]) 69) fun b2 F=>
 aA F (Am b2 0) 2 (#[(.bool true),(.int .i64 i_0)]:Array Value) fun F=>
 Rr 2 (Am b2 0) R F
theorem QC {i_0:Int} (h:NY i_0 R F):ac prog 40 #[(.int .i64 i_0)] F R:=Rx.sxC (args:=[(.int .i64 i_0)]) .N (by kernel_rfl) h
def pz (b3 b6:Nat) (R:VR) (F:PH):Prop:=
 Lr F 9 (Am b3 0) fun v_108=>
 aA F (Am b6 0) 9 v_108 fun F=>
 Rr 9 (Am b6 0) R F
def fE (b3 b4 b6:Nat) (p_8:Option Addr) (v_87:Bool) (R:VR) (F:PH):Prop:=
 (Bb (v_87) (
  Lr F 9 (Am b3 0) fun v_88=>
  aA F (Am b6 0) 9 v_88 fun F=>
  Rr 9 (Am b6 0) R F) (
  Lk F .u8 (Am b4 2) fun v_90=>
  Ls F (Am b3 0) fun v_92=>
  Ca 28 #[(.int .u8 v_90),(.int .i64 (v_92.len:Int))] F fun v_94 F=>
  ∃p8a_,p_8=some p8a_∧aA F (Addr.add p8a_ 3) 2 v_94 fun F=>
  Lr F 13 p8a_ fun v_96=>
  Lk F .u8 (Am b4 3) fun v_98=>
  Ca 115 #[(.agg v_96),(.int .u8 v_98)] F fun v_99 F=>
  aA F p8a_ 13 v_99 fun F=>
  Ls F (Am b3 5) fun v_102=>
  Lr F 13 p8a_ fun v_104=>
  ((Nb F (.cells #[] 67) fun b100 F=>
  ((Ap 35 #[(Sl.v (Sb b100 0)),(Sl.v v_102)] F fun v_103 F=>
  F.row p8a_ v_104∧v_104.size=13∧Nb F (.cells v_104 67) fun b105 F=>
  Ap 35 #[(Sl.v v_103),(Sl.v (Sb b105 1))] F fun v_106 F=>
  sto F (Am b3 5) (Sl.v v_106) fun F=>
  pz b3 b6 R F)∧
  (v_104.size=13∧Nb F (.cells v_104 67) fun b105_1 F=>
  Ap 35 #[(Sl.v (Sb b100 0)),(Sl.v v_102)] F fun v_103_1 F=>
  Ap 35 #[(Sl.v v_103_1),(Sl.v (Sb b105_1 1))] F fun v_106_1 F=>
  sto F (Am b3 5) (Sl.v v_106_1) fun F=>
  pz b3 b6 R F)))∧
  (v_104.size=13∧Nb F (.cells v_104 67) fun b105_2 F=>
  Nb F (.cells #[] 67) fun b100_1 F=>
  Ap 35 #[(Sl.v (Sb b100_1 0)),(Sl.v v_102)] F fun v_103_2 F=>
  Ap 35 #[(Sl.v v_103_2),(Sl.v (Sb b105_2 1))] F fun v_106_2 F=>
  sto F (Am b3 5) (Sl.v v_106_2) fun F=>
  pz b3 b6 R F))))
def pC (known_2:Bool) (b3 b4 b6:Nat) (p_8:Option Addr) (tokens_9:Int) (later_10:Bool) (R:VR) (F:PH):Prop:=
 (Bc (tokens_9=0) (
  (Bb (known_2) (
   fE b3 b4 b6 p_8 true R F) (
   fE b3 b4 b6 p_8 (!later_10) R F))) (
  fE b3 b4 b6 p_8 false R F))
def pE (N1:Int→Bool→Int→PH→Prop) (known_2:Bool) (b3 b4 b6:Nat) (v_14:Sl) (p_8:Option Addr) (i_11 tokens_9_2:Int) (later_10_2:Bool) (R:VR) (F:PH):Prop:=
 N1 tokens_9_2 later_10_2 (IntKind.i64.wrap (i_11+1)) F
def DB (N1:Int→Bool→Int→PH→Prop) (known_2:Bool) (b3 b4 b6:Nat) (v_14:Sl) (p_8:Option Addr) (R:VR) (tokens_9_1:Int) (later_10_1:Bool) (i_11:Int) (F:PH):Prop:=
 Ls F (Am b4 1) fun v_32=>
 (Bc (i_11<(v_32.len:Int)) (
  (Bc (i_11<4) (
   Ls F (Am b4 1) fun v_42=>
   Ix v_42 i_11 fun a44_=>
   Lk F .u8 (Addr.add a44_ (Int.toNat i_11*1)) fun v_45=>
   (Bc ((Int.tmod (IntKind.i64.wrap v_45) 14)<9) (
    ∃p8a__1,p_8=some p8a__1∧Ls F (Addr.add p8a__1 2) fun v_51=>
    Ca 40 #[(.int .i64 (Int.tmod (IntKind.i64.wrap v_45) 14))] F fun v_53 F=>
    F.cell (Addr.add p8a__1 2)=some (Sl.v v_51)∧v_53.size=2∧Nb F (.cells v_53 69) fun b54 F=>
    Ap 62 #[(Sl.v v_51),(Sl.v (Sb b54 1))] F fun v_55 F=>
    sto F (Addr.add p8a__1 2) (Sl.v v_55) fun F=>
    pE N1 known_2 b3 b4 b6 v_14 (some p8a__1) i_11 (IntKind.i64.wrap (tokens_9_1+1)) later_10_1 R F) (
    ∃p8a__2,p_8=some p8a__2∧Ls F (Addr.add p8a__2 2) fun v_60=>
    (v_14.len:Int)≠0∧Ca 114 #[(.int .i64 (Int.tmod (IntKind.i64.wrap ((Int.tmod (IntKind.i64.wrap v_45) 14) - 9)) (v_14.len:Int)))] F fun v_65 F=>
    F.cell (Addr.add p8a__2 2)=some (Sl.v v_60)∧v_65.size=2∧Nb F (.cells v_65 69) fun b66 F=>
    Ap 62 #[(Sl.v v_60),(Sl.v (Sb b66 1))] F fun v_67 F=>
    sto F (Addr.add p8a__2 2) (Sl.v v_67) fun F=>
    (Bb (later_10_1) (
     (v_14.len:Int)≠0∧Li F (Addr.add p8a__2 1) fun v_76=>
     pE N1 known_2 b3 b4 b6 v_14 (some p8a__2) i_11 tokens_9_1 (decide (v_76<(Int.tmod (IntKind.i64.wrap ((Int.tmod (IntKind.i64.wrap v_45) 14) - 9)) (v_14.len:Int)))) R F) (
     pE N1 known_2 b3 b4 b6 v_14 (some p8a__2) i_11 tokens_9_1 false R F))))) (
   pC known_2 b3 b4 b6 p_8 tokens_9_1 later_10_1 R F))) (
  pC known_2 b3 b4 b6 p_8 tokens_9_1 later_10_1 R F))
def lQ (known_2:Bool) (b3 b4 b6:Nat) (v_14:Sl) (p_8:Option Addr) (R:VR) (F:PH):Prop:=
 (∃(I1:Nat→Int→Bool→Int→PH→Prop) (m1:Nat),I1 m1 0 true 0 F∧∀m1 tokens_9_1 later_10_1 i_11 F,I1 m1 tokens_9_1 later_10_1 i_11 F→
  DB (nx3 I1 m1) known_2 b3 b4 b6 v_14 p_8 R tokens_9_1 later_10_1 i_11 F)
def NZ (g_0 x_1:Array Value) (known_2:Bool) (R:VR) (F:PH):Prop:=
 Nb F (.cells g_0 39) fun b3 F=>
 Nb F (.cells x_1 110) fun b4 F=>
 Nb F (.cells zG 39) fun b6 F=>
 Ls F (Am b3 4) fun v_14=>
 Ls F (Am b3 5) fun v_17=>
 Lk F .u8 (Am b4 0) fun v_25=>
 (v_14.len:Int)≠0∧((Nb F (.cells #[(.int .u8 (IntKind.u8.wrap (IntKind.i64.wrap (97+(v_17.len:Int)))))] 5) fun b21 F=>
 ∃v_22,rdo prog (Conv.bytesToString (Sl.v (Sb b21 1))) F (.string v_22)∧
 (ByteArray.mk #[112]).size+v_22.size≤9223372036854775807∧
 ((Ca 39 #[(.string ((ByteArray.mk #[112])++v_22)),(.int .i64 (Int.tmod (IntKind.i64.wrap v_25) (v_14.len:Int))),(Sl.v Sl.nil)] F fun v_29 F=>
 rdo prog (Conv.bytesToString (Sl.v (Sb b21 1))) F (.string v_22)∧F.cell (Am b4 0)=some (.int .u8 v_25)∧F.cell (Am b3 5)=some (Sl.v v_17)∧Nb F (.cells zP 67) fun b8 F=>
 aA F (Am b8 0) 13 v_29 fun F=>
 lQ known_2 b3 b4 b6 v_14 (some (Am b8 0)) R F)∧
 (Nb F (.cells zP 67) fun b8_1 F=>
 Ca 39 #[(.string ((ByteArray.mk #[112])++v_22)),(.int .i64 (Int.tmod (IntKind.i64.wrap v_25) (v_14.len:Int))),(Sl.v Sl.nil)] F fun v_29_1 F=>
 rdo prog (Conv.bytesToString (Sl.v (Sb b21 1))) F (.string v_22)∧F.cell (Am b4 0)=some (.int .u8 v_25)∧F.cell (Am b3 5)=some (Sl.v v_17)∧aA F (Am b8_1 0) 13 v_29_1 fun F=>
 lQ known_2 b3 b4 b6 v_14 (some (Am b8_1 0)) R F)))∧
 (Nb F (.cells zP 67) fun b8_2 F=>
 Nb F (.cells #[(.int .u8 (IntKind.u8.wrap (IntKind.i64.wrap (97+(v_17.len:Int)))))] 5) fun b21_1 F=>
 ∃v_22_1,rdo prog (Conv.bytesToString (Sl.v (Sb b21_1 1))) F (.string v_22_1)∧
 (ByteArray.mk #[112]).size+v_22_1.size≤9223372036854775807∧
 Ca 39 #[(.string ((ByteArray.mk #[112])++v_22_1)),(.int .i64 (Int.tmod (IntKind.i64.wrap v_25) (v_14.len:Int))),(Sl.v Sl.nil)] F fun v_29_2 F=>
 rdo prog (Conv.bytesToString (Sl.v (Sb b21_1 1))) F (.string v_22_1)∧F.cell (Am b4 0)=some (.int .u8 v_25)∧F.cell (Am b3 5)=some (Sl.v v_17)∧aA F (Am b8_2 0) 13 v_29_2 fun F=>
 lQ known_2 b3 b4 b6 v_14 (some (Am b8_2 0)) R F))
theorem QD {g_0:Array Value} {x_1:Array Value} {known_2:Bool} (h:NZ g_0 x_1 known_2 R F):ac prog 41 #[(.agg g_0),(.agg x_1),(.bool known_2)] F R:=Rx.sxC (args:=[(.agg g_0),(.agg x_1),(.bool known_2)]) (.T .N (.T .N (.J false [(8,.ptr)] .N (.T .N (.T .N (.J false [(9,.int .i64),(10,.bool)] (.T .N (.L [(9,.int .i64),(10,.bool),(11,.int .i64)] (.T .N (.J false [(8,.ptr),(9,.int .i64),(10,.bool)] .N .N)))) (.T (.J false [(87,.bool)] .N .N) (.T .N (.T .N (.J false [] .N .N)))))))))) (by kernel_rfl) h
def lR (b2 b4:Nat) (R:VR) (F:PH):Prop:=
 Lr F 9 (Am b2 0) fun v_155=>
 aA F (Am b4 0) 9 v_155 fun F=>
 Rr 9 (Am b4 0) R F
def pF (b2 b4 b7:Nat) (R:VR) (F:PH):Prop:=
 Lr F 9 (Am b2 0) fun v_144=>
 Lr F 9 (Am b7 0) fun v_145=>
 Cbo 117 #[(.agg v_144),(.agg v_145)] F fun v_146 F=>
 (Bb (v_146) (
  Ls F (Am b2 8) fun v_149=>
  Lr F 9 (Am b7 0) fun v_151=>
  ((Nb F (.cells #[] 74) fun b147 F=>
  ((Ap 37 #[(Sl.v (Sb b147 0)),(Sl.v v_149)] F fun v_150 F=>
  F.row (Am b7 0) v_151∧v_151.size=9∧Nb F (.cells v_151 74) fun b152 F=>
  Ap 37 #[(Sl.v v_150),(Sl.v (Sb b152 1))] F fun v_153 F=>
  sto F (Am b2 8) (Sl.v v_153) fun F=>
  lR b2 b4 R F)∧
  (v_151.size=9∧Nb F (.cells v_151 74) fun b152_1 F=>
  Ap 37 #[(Sl.v (Sb b147 0)),(Sl.v v_149)] F fun v_150_1 F=>
  Ap 37 #[(Sl.v v_150_1),(Sl.v (Sb b152_1 1))] F fun v_153_1 F=>
  sto F (Am b2 8) (Sl.v v_153_1) fun F=>
  lR b2 b4 R F)))∧
  (v_151.size=9∧Nb F (.cells v_151 74) fun b152_2 F=>
  Nb F (.cells #[] 74) fun b147_1 F=>
  Ap 37 #[(Sl.v (Sb b147_1 0)),(Sl.v v_149)] F fun v_150_2 F=>
  Ap 37 #[(Sl.v v_150_2),(Sl.v (Sb b152_2 1))] F fun v_153_2 F=>
  sto F (Am b2 8) (Sl.v v_153_2) fun F=>
  lR b2 b4 R F))) (
  lR b2 b4 R F))
def lS (b2 b4:Nat) (R:VR) (F:PH):Prop:=
 Lr F 9 (Am b2 0) fun v_89=>
 aA F (Am b4 0) 9 v_89 fun F=>
 Rr 9 (Am b4 0) R F
def tq (b2 b4 b8:Nat) (R:VR) (F:PH):Prop:=
 Ls F (Am b2 7) fun v_83=>
 Lr F 4 (Am b8 0) fun v_85=>
 ((Nb F (.cells #[] 72) fun b81 F=>
 ((Ap 36 #[(Sl.v (Sb b81 0)),(Sl.v v_83)] F fun v_84 F=>
 F.row (Am b8 0) v_85∧v_85.size=4∧Nb F (.cells v_85 72) fun b86 F=>
 Ap 36 #[(Sl.v v_84),(Sl.v (Sb b86 1))] F fun v_87 F=>
 sto F (Am b2 7) (Sl.v v_87) fun F=>
 lS b2 b4 R F)∧
 (v_85.size=4∧Nb F (.cells v_85 72) fun b86_1 F=>
 Ap 36 #[(Sl.v (Sb b81 0)),(Sl.v v_83)] F fun v_84_1 F=>
 Ap 36 #[(Sl.v v_84_1),(Sl.v (Sb b86_1 1))] F fun v_87_1 F=>
 sto F (Am b2 7) (Sl.v v_87_1) fun F=>
 lS b2 b4 R F)))∧
 (v_85.size=4∧Nb F (.cells v_85 72) fun b86_2 F=>
 Nb F (.cells #[] 72) fun b81_1 F=>
 Ap 36 #[(Sl.v (Sb b81_1 0)),(Sl.v v_83)] F fun v_84_2 F=>
 Ap 36 #[(Sl.v v_84_2),(Sl.v (Sb b86_2 1))] F fun v_87_2 F=>
 sto F (Am b2 7) (Sl.v v_87_2) fun F=>
 lS b2 b4 R F))
def tu (b2 b4 b8:Nat) (v_60:Int) (v_63:Sl) (v_74:Bool) (R:VR) (F:PH):Prop:=
 (Bb (v_74) (
  Ls F (Am b8 0) fun v_76=>
  Nb F (.cells #[(.int .i64 (Int.tmod (IntKind.i64.wrap v_60) (v_63.len:Int)))] 3) fun b78 F=>
  Ap 70 #[(Sl.v v_76),(Sl.v (Sb b78 1))] F fun v_79 F=>
  sto F (Am b8 0) (Sl.v v_79) fun F=>
  tq b2 b4 b8 R F) (
  tq b2 b4 b8 R F))
def tw (b2 b3 b4 b5 b7:Nat) (v_27:Int) (v_115:Bool) (R:VR) (F:PH):Prop:=
 (Bb (v_115) (
  Lk F .u8 (Am b3 0) fun v_119=>
  sto F (Am b7 0) (.int .i64 (IntKind.i64.wrap ((IntKind.i64.wrap (3+(IntKind.i64.wrap (Int.tmod v_119 8)))) - 4))) fun F=>
  Lk F .u8 (Am b3 1) fun v_126=>
  Ls F (Am b2 4) fun v_129=>
  (v_129.len:Int)≠0∧sto F (Am b7 4) (.int .i64 (Int.tmod (IntKind.i64.wrap v_126) (v_129.len:Int))) fun F=>
  Lk F .u8 (Am b3 2) fun v_134=>
  Nb F (.cells #[(.int .i64 (Int.tmod (IntKind.i64.wrap v_134) 9))] 3) fun b137 F=>
  sto F (Am b7 6) (Sl.v (Sb b137 1)) fun F=>
  pF b2 b4 b7 R F) (
  (Bc ((Int.tmod v_27 8)=6) (
   sto F (Am b7 0) (.int .i64 5) fun F=>
   Nb F (.cells #[(.int .i64 5)] 3) fun b142 F=>
   sto F (Am b7 6) (Sl.v (Sb b142 1)) fun F=>
   pF b2 b4 b7 R F) (
   Nb F (.cells #[] 79) fun b29 F=>
   Ls F (Am b2 3) fun v_31=>
   Ap 34 #[(Sl.v (Sb b29 0)),(Sl.v v_31)] F fun v_32 F=>
   Lk F .u8 (Am b3 1) fun v_35=>
   Lr F 2 (Am b5 0) fun v_38=>
   Ix v_32 (Int.tmod (IntKind.i64.wrap v_35) 9) fun a39_=>
   aA F (Addr.add (Addr.add a39_ (Int.toNat (Int.tmod (IntKind.i64.wrap v_35) 9)*7)) 5) 2 v_38 fun F=>
   sto F (Am b2 3) (Sl.v v_32) fun F=>
   Lr F 9 (Am b2 0) fun v_43=>
   aA F (Am b4 0) 9 v_43 fun F=>
   Rr 9 (Am b4 0) R F))))
def tx (b2 b3 b4 b5:Nat) (v_18:Int) (v_21:Sl) (b7:Nat) (v_27:Int) (v_90:Bool) (R:VR) (F:PH):Prop:=
 (Bb (v_90) (
  Lk F .u8 (Am b3 0) fun v_94=>
  sto F (Am b7 0) (.int .i64 (IntKind.i64.wrap ((IntKind.i64.wrap (1+(IntKind.i64.wrap (Int.tmod v_94 8)))) - 2))) fun F=>
  sto F (Am b7 1) (.int .i64 (Int.tmod (IntKind.i64.wrap v_18) (v_21.len:Int))) fun F=>
  Lk F .u8 (Am b3 3) fun v_103=>
  sto F (Am b7 2) (.int .i64 (Int.tmod (IntKind.i64.wrap v_103) 16)) fun F=>
  Lk F .u8 (Am b3 2) fun v_108=>
  Ls F (Am b2 5) fun v_111=>
  (v_111.len:Int)≠0∧sto F (Am b7 3) (.int .i64 (Int.tmod (IntKind.i64.wrap v_108) (v_111.len:Int))) fun F=>
  pF b2 b4 b7 R F) (
  (Bc ((Int.tmod v_27 8)=4) (
   tw b2 b3 b4 b5 b7 v_27 (decide ((Int.tmod v_27 8)=4)) R F) (
   tw b2 b3 b4 b5 b7 v_27 (decide ((Int.tmod v_27 8)=5)) R F))))
def tz (b2 b3 b4 b5:Nat) (v_18:Int) (v_21:Sl) (b7:Nat) (v_27:Int) (v_44:Bool) (R:VR) (F:PH):Prop:=
 (Bb (v_44) (
  Lr F 9 (Am b2 0) fun v_47=>
  Cbo 116 #[(.agg v_47),(.int .i64 (Int.tmod (IntKind.i64.wrap v_18) (v_21.len:Int)))] F fun v_49 F=>
  (Bb ((!v_49)) (
   Nb F (.cells #[(.int .i64 (Int.tmod (IntKind.i64.wrap v_18) (v_21.len:Int)))] 3) fun b52 F=>
   Lk F .u8 (Am b3 3) fun v_54=>
   Lr F 2 (Am b5 0) fun v_57=>
   v_57.size=2∧Nb F (.cells zL 72) fun b8 F=>
   aA F (Am b8 0) 4 (wr (Array.setIfInBounds (Array.setIfInBounds zL 0 (Sl.v (Sb b52 1))) 1 (.int .i64 (IntKind.i64.wrap (Int.tmod v_54 4)))) 2 v_57.toList) fun F=>
   Lk F .u8 (Am b3 2) fun v_60=>
   Ls F (Am b2 5) fun v_63=>
   (v_63.len:Int)≠0∧(Bc ((Int.tmod (IntKind.i64.wrap v_60) (v_63.len:Int))≠(Int.tmod (IntKind.i64.wrap v_18) (v_21.len:Int))) (
    Lr F 9 (Am b2 0) fun v_70=>
    Cbo 116 #[(.agg v_70),(.int .i64 (Int.tmod (IntKind.i64.wrap v_60) (v_63.len:Int)))] F fun v_72 F=>
    tu b2 b4 b8 v_60 v_63 (!v_72) R F) (
    tu b2 b4 b8 v_60 v_63 false R F))) (
   lS b2 b4 R F))) (
  (Bc ((Int.tmod v_27 8)=2) (
   tx b2 b3 b4 b5 v_18 v_21 b7 v_27 (decide ((Int.tmod v_27 8)=2)) R F) (
   tx b2 b3 b4 b5 v_18 v_21 b7 v_27 (decide ((Int.tmod v_27 8)=3)) R F))))
def N0 (g_0 x_1:Array Value) (R:VR) (F:PH):Prop:=
 Nb F (.cells g_0 39) fun b2 F=>
 Nb F (.cells x_1 113) fun b3 F=>
 Nb F (.cells zG 39) fun b4 F=>
 Lk F .u8 (Am b3 4) fun v_12=>
 Ls F (Am b2 0) fun v_14=>
 Ca 28 #[(.int .u8 v_12),(.int .i64 (v_14.len:Int))] F fun v_16 F=>
 Nb F (.cells zD 33) fun b5 F=>
 aA F (Am b5 0) 2 v_16 fun F=>
 Lk F .u8 (Am b3 1) fun v_18=>
 Ls F (Am b2 5) fun v_21=>
 (v_21.len:Int)≠0∧Lr F 2 (Am b5 0) fun v_24=>
 v_24.size=2∧Nb F (.cells zF 74) fun b7 F=>
 aA F (Am b7 0) 9 (wr zF 7 v_24.toList) fun F=>
 Lk F .u8 (Am b3 0) fun v_27=>
 (Bc ((Int.tmod v_27 8)=0) (
  tz b2 b3 b4 b5 v_18 v_21 b7 v_27 (decide ((Int.tmod v_27 8)=0)) R F) (
  tz b2 b3 b4 b5 v_18 v_21 b7 v_27 (decide ((Int.tmod v_27 8)=1)) R F))
theorem QE {g_0:Array Value} {x_1:Array Value} (h:N0 g_0 x_1 R F):ac prog 42 #[(.agg g_0),(.agg x_1)] F R:=Rx.sxC (args:=[(.agg g_0),(.agg x_1)]) (.T .N (.T .N (.T .N (.T .N (.J false [] (.T .N (.J false [(44,.bool)] .N (.T (.J false [] (.T .N (.T (.T .N (.T .N (.J false [] (.J false [(74,.bool)] .N .N) .N))) .N)) .N) (.J false [(90,.bool)] .N (.T .N (.J false [(115,.bool)] .N .N)))))) (.J false [] .N .N)))))) (by kernel_rfl) h
def N3 (v_0:Int) (R:VR) (F:PH):Prop:=
 Nb F (.cells zD 33) fun b2 F=>
 ac prog 165 #[(.int .i64 v_0)] F fun v F=>∃v_7,∃v_7_1,v=(.tuple #[(.agg v_7),(.int .i64 v_7_1)])∧
 Nb F (.cells zD 33) fun b3 F=>
 aA F (Am b3 0) 2 v_7 fun F=>
 Lr F 2 (Am b3 0) fun v_10=>
 aA F (Am b2 0) 2 v_10 fun F=>
 Rr 2 (Am b2 0) R F
theorem QF {v_0:Int} (h:N3 v_0 R F):ac prog 96 #[(.int .i64 v_0)] F R:=Rx.sxC (args:=[(.int .i64 v_0)]) .N (by kernel_rfl) h
def yN (b1 b0:Nat) (R:VR) (F:PH):Prop:=
 Lr F 9 (Am b1 0) fun v_75=>
 aA F (Am b0 0) 9 v_75 fun F=>
 Rr 9 (Am b0 0) R F
def kI (b1 b73 b0:Nat) (R:VR) (F:PH):Prop:=
 sto F (Am b1 7) (Sl.v (Sb b73 3)) fun F=>
 yN b1 b0 R F
def ff (v_71:Array Value) (b63:Nat) (v_64:Array Value) (b66:Nat) (v_67:Array Value) (b69 b1 b0:Nat) (R:VR) (F:PH):Prop:=
 v_71.size=2∧(wr (Array.setIfInBounds (Array.setIfInBounds zL 0 (Sl.v (Sb b63 1))) 1 (.int .i64 2)) 2 v_64.toList).size=4∧(wr (Array.setIfInBounds (Array.setIfInBounds zL 0 (Sl.v (Sb b66 1))) 1 (.int .i64 1)) 2 v_67.toList).size=4∧(wr (Array.setIfInBounds (Array.setIfInBounds zL 0 (Sl.v (Sb b69 1))) 1 (.int .i64 1)) 2 v_71.toList).size=4∧Nb F (.cells (wr (wr (wr (#[.slice none 0 0,.int .i64 0,.slice none 0 0,.int .i64 0,.slice none 0 0,.int .i64 0,.slice none 0 0,.int .i64 0,.slice none 0 0,.int .i64 0,.slice none 0 0,.int .i64 0]:Array Value) 0 (wr (Array.setIfInBounds (Array.setIfInBounds zL 0 (Sl.v (Sb b63 1))) 1 (.int .i64 2)) 2 v_64.toList).toList) 4 (wr (Array.setIfInBounds (Array.setIfInBounds zL 0 (Sl.v (Sb b66 1))) 1 (.int .i64 1)) 2 v_67.toList).toList) 8 (wr (Array.setIfInBounds (Array.setIfInBounds zL 0 (Sl.v (Sb b69 1))) 1 (.int .i64 1)) 2 v_71.toList).toList) 72) fun b73 F=>
 kI b1 b73 b0 R F
def fg (v_70:Array Value) (b2:Nat) (v_67 v_64:Array Value) (b63 b66 b69 b1 b0:Nat) (R:VR) (F:PH):Prop:=
 Ca 97 #[(.agg v_70)] F fun v_71 F=>
 F.row (Am b2 0) v_67∧F.row (Am b2 0) v_64∧ff v_71 b63 v_64 b66 v_67 b69 b1 b0 R F
def nB (b2:Nat) (v_67 v_64:Array Value) (b63 b66 b69 b1 b0:Nat) (R:VR) (F:PH):Prop:=
 Ca 96 #[(.int .i64 0)] F fun v_70 F=>
 F.row (Am b2 0) v_67∧F.row (Am b2 0) v_64∧fg v_70 b2 v_67 v_64 b63 b66 b69 b1 b0 R F
def kJ (v_71_1:Array Value) (b63:Nat) (v_64:Array Value) (b66:Nat) (v_67:Array Value) (b1 b0:Nat) (R:VR) (F:PH):Prop:=
 Nb F (.cells #[(.int .i64 0)] 3) fun b69_2 F=>
 ff v_71_1 b63 v_64 b66 v_67 b69_2 b1 b0 R F
def nC (v_70_1:Array Value) (b2:Nat) (v_67 v_64:Array Value) (b63 b66 b1 b0:Nat) (R:VR) (F:PH):Prop:=
 ((Nb F (.cells #[(.int .i64 0)] 3) fun b69_1 F=>
 fg v_70_1 b2 v_67 v_64 b63 b66 b69_1 b1 b0 R F)∧
 (Ca 97 #[(.agg v_70_1)] F fun v_71_1 F=>
 F.row (Am b2 0) v_67∧F.row (Am b2 0) v_64∧kJ v_71_1 b63 v_64 b66 v_67 b1 b0 R F))
def tC (v_67:Array Value) (b2:Nat) (v_64:Array Value) (b63 b66 b1 b0:Nat) (R:VR) (F:PH):Prop:=
 v_67.size=2∧((Nb F (.cells #[(.int .i64 0)] 3) fun b69 F=>
 nB b2 v_67 v_64 b63 b66 b69 b1 b0 R F)∧
 (Ca 96 #[(.int .i64 0)] F fun v_70_1 F=>
 F.row (Am b2 0) v_67∧F.row (Am b2 0) v_64∧nC v_70_1 b2 v_67 v_64 b63 b66 b1 b0 R F))
def kK (v_67:Array Value) (b2:Nat) (v_64:Array Value) (b63 b66_1 b69_3 b1 b0:Nat) (R:VR) (F:PH):Prop:=
 v_67.size=2∧Ca 96 #[(.int .i64 0)] F fun v_70_2 F=>
 F.row (Am b2 0) v_67∧F.row (Am b2 0) v_64∧fg v_70_2 b2 v_67 v_64 b63 b66_1 b69_3 b1 b0 R F
def kL (v_67 v_70_3:Array Value) (b2:Nat) (v_64:Array Value) (b63 b66_2 b69_3 b1 b0:Nat) (R:VR) (F:PH):Prop:=
 v_67.size=2∧Ca 97 #[(.agg v_70_3)] F fun v_71_2 F=>
 F.row (Am b2 0) v_67∧F.row (Am b2 0) v_64∧ff v_71_2 b63 v_64 b66_2 v_67 b69_3 b1 b0 R F
def kM (v_67:Array Value) (b63:Nat) (v_64:Array Value) (b66_3 b69_3:Nat) (v_71_3:Array Value) (b1 b0:Nat) (R:VR) (F:PH):Prop:=
 v_67.size=2∧(wr (Array.setIfInBounds (Array.setIfInBounds zL 0 (Sl.v (Sb b63 1))) 1 (.int .i64 2)) 2 v_64.toList).size=4∧(wr (Array.setIfInBounds (Array.setIfInBounds zL 0 (Sl.v (Sb b66_3 1))) 1 (.int .i64 1)) 2 v_67.toList).size=4∧(wr (Array.setIfInBounds (Array.setIfInBounds zL 0 (Sl.v (Sb b69_3 1))) 1 (.int .i64 1)) 2 v_71_3.toList).size=4∧Nb F (.cells (wr (wr (wr (#[.slice none 0 0,.int .i64 0,.slice none 0 0,.int .i64 0,.slice none 0 0,.int .i64 0,.slice none 0 0,.int .i64 0,.slice none 0 0,.int .i64 0,.slice none 0 0,.int .i64 0]:Array Value) 0 (wr (Array.setIfInBounds (Array.setIfInBounds zL 0 (Sl.v (Sb b63 1))) 1 (.int .i64 2)) 2 v_64.toList).toList) 4 (wr (Array.setIfInBounds (Array.setIfInBounds zL 0 (Sl.v (Sb b66_3 1))) 1 (.int .i64 1)) 2 v_67.toList).toList) 8 (wr (Array.setIfInBounds (Array.setIfInBounds zL 0 (Sl.v (Sb b69_3 1))) 1 (.int .i64 1)) 2 v_71_3.toList).toList) 72) fun b73_1 F=>
 kI b1 b73_1 b0 R F
def fZ (v_71_3 v_67:Array Value) (b63:Nat) (v_64:Array Value) (b69_3 b1 b0:Nat) (R:VR) (F:PH):Prop:=
 v_71_3.size=2∧Nb F (.cells #[(.int .i64 1)] 3) fun b66_3 F=>
 kM v_67 b63 v_64 b66_3 b69_3 v_71_3 b1 b0 R F
def f7 (v_67 v_70_3:Array Value) (b2:Nat) (v_64:Array Value) (b63 b69_3 b1 b0:Nat) (R:VR) (F:PH):Prop:=
 ((Nb F (.cells #[(.int .i64 1)] 3) fun b66_2 F=>
 kL v_67 v_70_3 b2 v_64 b63 b66_2 b69_3 b1 b0 R F)∧
 (Ca 97 #[(.agg v_70_3)] F fun v_71_3 F=>
 F.row (Am b2 0) v_67∧F.row (Am b2 0) v_64∧fZ v_71_3 v_67 b63 v_64 b69_3 b1 b0 R F))
def pG (v_67:Array Value) (b2:Nat) (v_64:Array Value) (b63 b69_3 b1 b0:Nat) (R:VR) (F:PH):Prop:=
 ((Nb F (.cells #[(.int .i64 1)] 3) fun b66_1 F=>
 kK v_67 b2 v_64 b63 b66_1 b69_3 b1 b0 R F)∧
 (Ca 96 #[(.int .i64 0)] F fun v_70_3 F=>
 F.row (Am b2 0) v_67∧F.row (Am b2 0) v_64∧f7 v_67 v_70_3 b2 v_64 b63 b69_3 b1 b0 R F))
def kN (v_67 v_70_4:Array Value) (b2:Nat) (v_64:Array Value) (b63 b66_4 b1 b0:Nat) (R:VR) (F:PH):Prop:=
 v_67.size=2∧((Nb F (.cells #[(.int .i64 0)] 3) fun b69_4 F=>
 fg v_70_4 b2 v_67 v_64 b63 b66_4 b69_4 b1 b0 R F)∧
 (Ca 97 #[(.agg v_70_4)] F fun v_71_4 F=>
 F.row (Am b2 0) v_67∧F.row (Am b2 0) v_64∧kJ v_71_4 b63 v_64 b66_4 v_67 b1 b0 R F))
def kO (v_67 v_71_5:Array Value) (b63:Nat) (v_64:Array Value) (b66_5 b1 b0:Nat) (R:VR) (F:PH):Prop:=
 v_67.size=2∧Nb F (.cells #[(.int .i64 0)] 3) fun b69_6 F=>
 ff v_71_5 b63 v_64 b66_5 v_67 b69_6 b1 b0 R F
def kP (v_67 v_71_5:Array Value) (b63:Nat) (v_64:Array Value) (b1 b0:Nat) (R:VR) (F:PH):Prop:=
 ((Nb F (.cells #[(.int .i64 1)] 3) fun b66_5 F=>
 kO v_67 v_71_5 b63 v_64 b66_5 b1 b0 R F)∧
 (Nb F (.cells #[(.int .i64 0)] 3) fun b69_7 F=>
 fZ v_71_5 v_67 b63 v_64 b69_7 b1 b0 R F))
def pH (v_67 v_70_4:Array Value) (b2:Nat) (v_64:Array Value) (b63 b1 b0:Nat) (R:VR) (F:PH):Prop:=
 ((Nb F (.cells #[(.int .i64 1)] 3) fun b66_4 F=>
 kN v_67 v_70_4 b2 v_64 b63 b66_4 b1 b0 R F)∧
 (Nb F (.cells #[(.int .i64 0)] 3) fun b69_5 F=>
 f7 v_67 v_70_4 b2 v_64 b63 b69_5 b1 b0 R F)∧
 (Ca 97 #[(.agg v_70_4)] F fun v_71_5 F=>
 F.row (Am b2 0) v_67∧F.row (Am b2 0) v_64∧kP v_67 v_71_5 b63 v_64 b1 b0 R F))
def tD (v_64 v_67:Array Value) (b2 b63 b1 b0:Nat) (R:VR) (F:PH):Prop:=
 v_64.size=2∧((Nb F (.cells #[(.int .i64 1)] 3) fun b66 F=>
 tC v_67 b2 v_64 b63 b66 b1 b0 R F)∧
 (Nb F (.cells #[(.int .i64 0)] 3) fun b69_3 F=>
 pG v_67 b2 v_64 b63 b69_3 b1 b0 R F)∧
 (Ca 96 #[(.int .i64 0)] F fun v_70_4 F=>
 F.row (Am b2 0) v_67∧F.row (Am b2 0) v_64∧pH v_67 v_70_4 b2 v_64 b63 b1 b0 R F))
def pI (v_64:Array Value) (b2:Nat) (v_67:Array Value) (b63_1 b66_6 b1 b0:Nat) (R:VR) (F:PH):Prop:=
 v_64.size=2∧((Nb F (.cells #[(.int .i64 0)] 3) fun b69_8 F=>
 nB b2 v_67 v_64 b63_1 b66_6 b69_8 b1 b0 R F)∧
 (Ca 96 #[(.int .i64 0)] F fun v_70_5 F=>
 F.row (Am b2 0) v_67∧F.row (Am b2 0) v_64∧nC v_70_5 b2 v_67 v_64 b63_1 b66_6 b1 b0 R F))
def kQ (v_64:Array Value) (b2:Nat) (v_67:Array Value) (b63_2 b66_6 b69_9 b1 b0:Nat) (R:VR) (F:PH):Prop:=
 v_64.size=2∧Ca 96 #[(.int .i64 0)] F fun v_70_6 F=>
 F.row (Am b2 0) v_67∧F.row (Am b2 0) v_64∧fg v_70_6 b2 v_67 v_64 b63_2 b66_6 b69_9 b1 b0 R F
def kR (v_64 v_70_7:Array Value) (b2:Nat) (v_67:Array Value) (b63_3 b66_6 b69_9 b1 b0:Nat) (R:VR) (F:PH):Prop:=
 v_64.size=2∧Ca 97 #[(.agg v_70_7)] F fun v_71_6 F=>
 F.row (Am b2 0) v_67∧F.row (Am b2 0) v_64∧ff v_71_6 b63_3 v_64 b66_6 v_67 b69_9 b1 b0 R F
def kS (v_64:Array Value) (b63_4 b66_6:Nat) (v_67:Array Value) (b69_9:Nat) (v_71_7:Array Value) (b1 b0:Nat) (R:VR) (F:PH):Prop:=
 v_64.size=2∧(wr (Array.setIfInBounds (Array.setIfInBounds zL 0 (Sl.v (Sb b63_4 1))) 1 (.int .i64 2)) 2 v_64.toList).size=4∧(wr (Array.setIfInBounds (Array.setIfInBounds zL 0 (Sl.v (Sb b66_6 1))) 1 (.int .i64 1)) 2 v_67.toList).size=4∧(wr (Array.setIfInBounds (Array.setIfInBounds zL 0 (Sl.v (Sb b69_9 1))) 1 (.int .i64 1)) 2 v_71_7.toList).size=4∧Nb F (.cells (wr (wr (wr (#[.slice none 0 0,.int .i64 0,.slice none 0 0,.int .i64 0,.slice none 0 0,.int .i64 0,.slice none 0 0,.int .i64 0,.slice none 0 0,.int .i64 0,.slice none 0 0,.int .i64 0]:Array Value) 0 (wr (Array.setIfInBounds (Array.setIfInBounds zL 0 (Sl.v (Sb b63_4 1))) 1 (.int .i64 2)) 2 v_64.toList).toList) 4 (wr (Array.setIfInBounds (Array.setIfInBounds zL 0 (Sl.v (Sb b66_6 1))) 1 (.int .i64 1)) 2 v_67.toList).toList) 8 (wr (Array.setIfInBounds (Array.setIfInBounds zL 0 (Sl.v (Sb b69_9 1))) 1 (.int .i64 1)) 2 v_71_7.toList).toList) 72) fun b73_2 F=>
 kI b1 b73_2 b0 R F
def f8 (v_71_7 v_64:Array Value) (b66_6:Nat) (v_67:Array Value) (b69_9 b1 b0:Nat) (R:VR) (F:PH):Prop:=
 v_71_7.size=2∧Nb F (.cells #[(.int .i64 4)] 3) fun b63_4 F=>
 kS v_64 b63_4 b66_6 v_67 b69_9 v_71_7 b1 b0 R F
def ga (v_64 v_70_7:Array Value) (b2:Nat) (v_67:Array Value) (b66_6 b69_9 b1 b0:Nat) (R:VR) (F:PH):Prop:=
 ((Nb F (.cells #[(.int .i64 4)] 3) fun b63_3 F=>
 kR v_64 v_70_7 b2 v_67 b63_3 b66_6 b69_9 b1 b0 R F)∧
 (Ca 97 #[(.agg v_70_7)] F fun v_71_7 F=>
 F.row (Am b2 0) v_67∧F.row (Am b2 0) v_64∧f8 v_71_7 v_64 b66_6 v_67 b69_9 b1 b0 R F))
def pJ (v_64:Array Value) (b2:Nat) (v_67:Array Value) (b66_6 b69_9 b1 b0:Nat) (R:VR) (F:PH):Prop:=
 ((Nb F (.cells #[(.int .i64 4)] 3) fun b63_2 F=>
 kQ v_64 b2 v_67 b63_2 b66_6 b69_9 b1 b0 R F)∧
 (Ca 96 #[(.int .i64 0)] F fun v_70_7 F=>
 F.row (Am b2 0) v_67∧F.row (Am b2 0) v_64∧ga v_64 v_70_7 b2 v_67 b66_6 b69_9 b1 b0 R F))
def kT (v_64 v_70_8:Array Value) (b2:Nat) (v_67:Array Value) (b63_5 b66_6 b1 b0:Nat) (R:VR) (F:PH):Prop:=
 v_64.size=2∧((Nb F (.cells #[(.int .i64 0)] 3) fun b69_10 F=>
 fg v_70_8 b2 v_67 v_64 b63_5 b66_6 b69_10 b1 b0 R F)∧
 (Ca 97 #[(.agg v_70_8)] F fun v_71_8 F=>
 F.row (Am b2 0) v_67∧F.row (Am b2 0) v_64∧kJ v_71_8 b63_5 v_64 b66_6 v_67 b1 b0 R F))
def kU (v_64 v_71_9:Array Value) (b63_6 b66_6:Nat) (v_67:Array Value) (b1 b0:Nat) (R:VR) (F:PH):Prop:=
 v_64.size=2∧Nb F (.cells #[(.int .i64 0)] 3) fun b69_12 F=>
 ff v_71_9 b63_6 v_64 b66_6 v_67 b69_12 b1 b0 R F
def kV (v_64 v_71_9:Array Value) (b66_6:Nat) (v_67:Array Value) (b1 b0:Nat) (R:VR) (F:PH):Prop:=
 ((Nb F (.cells #[(.int .i64 4)] 3) fun b63_6 F=>
 kU v_64 v_71_9 b63_6 b66_6 v_67 b1 b0 R F)∧
 (Nb F (.cells #[(.int .i64 0)] 3) fun b69_13 F=>
 f8 v_71_9 v_64 b66_6 v_67 b69_13 b1 b0 R F))
def pK (v_64 v_70_8:Array Value) (b2:Nat) (v_67:Array Value) (b66_6 b1 b0:Nat) (R:VR) (F:PH):Prop:=
 ((Nb F (.cells #[(.int .i64 4)] 3) fun b63_5 F=>
 kT v_64 v_70_8 b2 v_67 b63_5 b66_6 b1 b0 R F)∧
 (Nb F (.cells #[(.int .i64 0)] 3) fun b69_11 F=>
 ga v_64 v_70_8 b2 v_67 b66_6 b69_11 b1 b0 R F)∧
 (Ca 97 #[(.agg v_70_8)] F fun v_71_9 F=>
 F.row (Am b2 0) v_67∧F.row (Am b2 0) v_64∧kV v_64 v_71_9 b66_6 v_67 b1 b0 R F))
def pM (v_67 v_64:Array Value) (b2 b66_6 b1 b0:Nat) (R:VR) (F:PH):Prop:=
 v_67.size=2∧((Nb F (.cells #[(.int .i64 4)] 3) fun b63_1 F=>
 pI v_64 b2 v_67 b63_1 b66_6 b1 b0 R F)∧
 (Nb F (.cells #[(.int .i64 0)] 3) fun b69_9 F=>
 pJ v_64 b2 v_67 b66_6 b69_9 b1 b0 R F)∧
 (Ca 96 #[(.int .i64 0)] F fun v_70_8 F=>
 F.row (Am b2 0) v_67∧F.row (Am b2 0) v_64∧pK v_64 v_70_8 b2 v_67 b66_6 b1 b0 R F))
def pN (v_64 v_67:Array Value) (b2 b63_7 b69_14 b1 b0:Nat) (R:VR) (F:PH):Prop:=
 v_64.size=2∧((Nb F (.cells #[(.int .i64 1)] 3) fun b66_7 F=>
 kK v_67 b2 v_64 b63_7 b66_7 b69_14 b1 b0 R F)∧
 (Ca 96 #[(.int .i64 0)] F fun v_70_9 F=>
 F.row (Am b2 0) v_67∧F.row (Am b2 0) v_64∧f7 v_67 v_70_9 b2 v_64 b63_7 b69_14 b1 b0 R F))
def pO (v_67 v_64:Array Value) (b2 b66_8 b69_14 b1 b0:Nat) (R:VR) (F:PH):Prop:=
 v_67.size=2∧((Nb F (.cells #[(.int .i64 4)] 3) fun b63_8 F=>
 kQ v_64 b2 v_67 b63_8 b66_8 b69_14 b1 b0 R F)∧
 (Ca 96 #[(.int .i64 0)] F fun v_70_10 F=>
 F.row (Am b2 0) v_67∧F.row (Am b2 0) v_64∧ga v_64 v_70_10 b2 v_67 b66_8 b69_14 b1 b0 R F))
def pP (v_64 v_67 v_70_11:Array Value) (b2 b63_9 b69_14 b1 b0:Nat) (R:VR) (F:PH):Prop:=
 v_64.size=2∧((Nb F (.cells #[(.int .i64 1)] 3) fun b66_9 F=>
 kL v_67 v_70_11 b2 v_64 b63_9 b66_9 b69_14 b1 b0 R F)∧
 (Ca 97 #[(.agg v_70_11)] F fun v_71_10 F=>
 F.row (Am b2 0) v_67∧F.row (Am b2 0) v_64∧fZ v_71_10 v_67 b63_9 v_64 b69_14 b1 b0 R F))
def pQ (v_67 v_64 v_70_11:Array Value) (b2 b66_10 b69_14 b1 b0:Nat) (R:VR) (F:PH):Prop:=
 v_67.size=2∧((Nb F (.cells #[(.int .i64 4)] 3) fun b63_10 F=>
 kR v_64 v_70_11 b2 v_67 b63_10 b66_10 b69_14 b1 b0 R F)∧
 (Ca 97 #[(.agg v_70_11)] F fun v_71_11 F=>
 F.row (Am b2 0) v_67∧F.row (Am b2 0) v_64∧f8 v_71_11 v_64 b66_10 v_67 b69_14 b1 b0 R F))
def pR (v_64 v_67:Array Value) (b63_11 b69_14:Nat) (v_71_12:Array Value) (b1 b0:Nat) (R:VR) (F:PH):Prop:=
 v_64.size=2∧Nb F (.cells #[(.int .i64 1)] 3) fun b66_11 F=>
 kM v_67 b63_11 v_64 b66_11 b69_14 v_71_12 b1 b0 R F
def pT (v_67 v_64:Array Value) (b66_12 b69_14:Nat) (v_71_12:Array Value) (b1 b0:Nat) (R:VR) (F:PH):Prop:=
 v_67.size=2∧Nb F (.cells #[(.int .i64 4)] 3) fun b63_12 F=>
 kS v_64 b63_12 b66_12 v_67 b69_14 v_71_12 b1 b0 R F
def kW (v_71_12 v_64 v_67:Array Value) (b69_14 b1 b0:Nat) (R:VR) (F:PH):Prop:=
 v_71_12.size=2∧((Nb F (.cells #[(.int .i64 4)] 3) fun b63_11 F=>
 pR v_64 v_67 b63_11 b69_14 v_71_12 b1 b0 R F)∧
 (Nb F (.cells #[(.int .i64 1)] 3) fun b66_12 F=>
 pT v_67 v_64 b66_12 b69_14 v_71_12 b1 b0 R F))
def kX (v_64 v_67 v_70_11:Array Value) (b2 b69_14 b1 b0:Nat) (R:VR) (F:PH):Prop:=
 ((Nb F (.cells #[(.int .i64 4)] 3) fun b63_9 F=>
 pP v_64 v_67 v_70_11 b2 b63_9 b69_14 b1 b0 R F)∧
 (Nb F (.cells #[(.int .i64 1)] 3) fun b66_10 F=>
 pQ v_67 v_64 v_70_11 b2 b66_10 b69_14 b1 b0 R F)∧
 (Ca 97 #[(.agg v_70_11)] F fun v_71_12 F=>
 F.row (Am b2 0) v_67∧F.row (Am b2 0) v_64∧kW v_71_12 v_64 v_67 b69_14 b1 b0 R F))
def pU (v_64 v_67:Array Value) (b2 b69_14 b1 b0:Nat) (R:VR) (F:PH):Prop:=
 ((Nb F (.cells #[(.int .i64 4)] 3) fun b63_7 F=>
 pN v_64 v_67 b2 b63_7 b69_14 b1 b0 R F)∧
 (Nb F (.cells #[(.int .i64 1)] 3) fun b66_8 F=>
 pO v_67 v_64 b2 b66_8 b69_14 b1 b0 R F)∧
 (Ca 96 #[(.int .i64 0)] F fun v_70_11 F=>
 F.row (Am b2 0) v_67∧F.row (Am b2 0) v_64∧kX v_64 v_67 v_70_11 b2 b69_14 b1 b0 R F))
def pV (v_64 v_67 v_70_12:Array Value) (b2 b63_13 b1 b0:Nat) (R:VR) (F:PH):Prop:=
 v_64.size=2∧((Nb F (.cells #[(.int .i64 1)] 3) fun b66_13 F=>
 kN v_67 v_70_12 b2 v_64 b63_13 b66_13 b1 b0 R F)∧
 (Nb F (.cells #[(.int .i64 0)] 3) fun b69_15 F=>
 f7 v_67 v_70_12 b2 v_64 b63_13 b69_15 b1 b0 R F)∧
 (Ca 97 #[(.agg v_70_12)] F fun v_71_13 F=>
 F.row (Am b2 0) v_67∧F.row (Am b2 0) v_64∧kP v_67 v_71_13 b63_13 v_64 b1 b0 R F))
def pW (v_67 v_64 v_70_12:Array Value) (b2 b66_14 b1 b0:Nat) (R:VR) (F:PH):Prop:=
 v_67.size=2∧((Nb F (.cells #[(.int .i64 4)] 3) fun b63_14 F=>
 kT v_64 v_70_12 b2 v_67 b63_14 b66_14 b1 b0 R F)∧
 (Nb F (.cells #[(.int .i64 0)] 3) fun b69_16 F=>
 ga v_64 v_70_12 b2 v_67 b66_14 b69_16 b1 b0 R F)∧
 (Ca 97 #[(.agg v_70_12)] F fun v_71_14 F=>
 F.row (Am b2 0) v_67∧F.row (Am b2 0) v_64∧kV v_64 v_71_14 b66_14 v_67 b1 b0 R F))
def pX (v_64 v_67 v_71_15:Array Value) (b63_15 b1 b0:Nat) (R:VR) (F:PH):Prop:=
 v_64.size=2∧((Nb F (.cells #[(.int .i64 1)] 3) fun b66_15 F=>
 kO v_67 v_71_15 b63_15 v_64 b66_15 b1 b0 R F)∧
 (Nb F (.cells #[(.int .i64 0)] 3) fun b69_18 F=>
 fZ v_71_15 v_67 b63_15 v_64 b69_18 b1 b0 R F))
def pY (v_67 v_64 v_71_15:Array Value) (b66_16 b1 b0:Nat) (R:VR) (F:PH):Prop:=
 v_67.size=2∧((Nb F (.cells #[(.int .i64 4)] 3) fun b63_16 F=>
 kU v_64 v_71_15 b63_16 b66_16 v_67 b1 b0 R F)∧
 (Nb F (.cells #[(.int .i64 0)] 3) fun b69_19 F=>
 f8 v_71_15 v_64 b66_16 v_67 b69_19 b1 b0 R F))
def pZ (v_64 v_67 v_71_15:Array Value) (b1 b0:Nat) (R:VR) (F:PH):Prop:=
 ((Nb F (.cells #[(.int .i64 4)] 3) fun b63_15 F=>
 pX v_64 v_67 v_71_15 b63_15 b1 b0 R F)∧
 (Nb F (.cells #[(.int .i64 1)] 3) fun b66_16 F=>
 pY v_67 v_64 v_71_15 b66_16 b1 b0 R F)∧
 (Nb F (.cells #[(.int .i64 0)] 3) fun b69_20 F=>
 kW v_71_15 v_64 v_67 b69_20 b1 b0 R F))
def p9 (v_64 v_67 v_70_12:Array Value) (b2 b1 b0:Nat) (R:VR) (F:PH):Prop:=
 ((Nb F (.cells #[(.int .i64 4)] 3) fun b63_13 F=>
 pV v_64 v_67 v_70_12 b2 b63_13 b1 b0 R F)∧
 (Nb F (.cells #[(.int .i64 1)] 3) fun b66_14 F=>
 pW v_67 v_64 v_70_12 b2 b66_14 b1 b0 R F)∧
 (Nb F (.cells #[(.int .i64 0)] 3) fun b69_17 F=>
 kX v_64 v_67 v_70_12 b2 b69_17 b1 b0 R F)∧
 (Ca 97 #[(.agg v_70_12)] F fun v_71_15 F=>
 F.row (Am b2 0) v_67∧F.row (Am b2 0) v_64∧pZ v_64 v_67 v_71_15 b1 b0 R F))
def HH (R:VR) (F:PH):Prop:=
 Nb F (.cells zG 39) fun b0 F=>
 Nb F (.cells #[(.string ⟨#[69]⟩)] 9) fun b3 F=>
 Ca 38 #[(Sl.v (Sb b3 1))] F fun v_4 F=>
 Nb F (.cells zG 39) fun b1 F=>
 aA F (Am b1 0) 9 v_4 fun F=>
 Ca 89 #[(.bool true)] F fun v_5 F=>
 Nb F (.cells zD 33) fun b2 F=>
 aA F (Am b2 0) 2 v_5 fun F=>
 Ls F (Am b1 5) fun v_7=>
 Ca 114 #[(.int .i64 0)] F fun v_8 F=>
 F.cell (Am b1 5)=some (Sl.v v_7)∧Ca 40 #[(.int .i64 1)] F fun v_9 F=>
 F.cell (Am b1 5)=some (Sl.v v_7)∧Ca 114 #[(.int .i64 0)] F fun v_10 F=>
 F.cell (Am b1 5)=some (Sl.v v_7)∧v_8.size=2∧v_9.size=2∧v_10.size=2∧Nb F (.cells (wr (wr (wr (#[.bool false,.int .i64 0,.bool false,.int .i64 0,.bool false,.int .i64 0]:Array Value) 0 v_8.toList) 2 v_9.toList) 4 v_10.toList) 69) fun b11 F=>
 Ca 39 #[(.string ⟨#[97,100,100]⟩),(.int .i64 0),(Sl.v (Sb b11 3))] F fun v_12 F=>
 F.cell (Am b1 5)=some (Sl.v v_7)∧v_12.size=13∧Nb F (.cells v_12 67) fun b13 F=>
 Ap 35 #[(Sl.v v_7),(Sl.v (Sb b13 1))] F fun v_14 F=>
 sto F (Am b1 5) (Sl.v v_14) fun F=>
 Ls F (Am b1 5) fun v_17=>
 Ca 114 #[(.int .i64 0)] F fun v_18 F=>
 F.cell (Am b1 5)=some (Sl.v v_17)∧Ca 40 #[(.int .i64 2)] F fun v_19 F=>
 F.cell (Am b1 5)=some (Sl.v v_17)∧Ca 114 #[(.int .i64 0)] F fun v_20 F=>
 F.cell (Am b1 5)=some (Sl.v v_17)∧v_18.size=2∧v_19.size=2∧v_20.size=2∧Nb F (.cells (wr (wr (wr (#[.bool false,.int .i64 0,.bool false,.int .i64 0,.bool false,.int .i64 0]:Array Value) 0 v_18.toList) 2 v_19.toList) 4 v_20.toList) 69) fun b21 F=>
 Ca 39 #[(.string ⟨#[109,117,108]⟩),(.int .i64 0),(Sl.v (Sb b21 3))] F fun v_22 F=>
 F.cell (Am b1 5)=some (Sl.v v_17)∧v_22.size=13∧Nb F (.cells v_22 67) fun b23 F=>
 Ap 35 #[(Sl.v v_17),(Sl.v (Sb b23 1))] F fun v_24 F=>
 sto F (Am b1 5) (Sl.v v_24) fun F=>
 Ls F (Am b1 5) fun v_27=>
 Ca 40 #[(.int .i64 3)] F fun v_28 F=>
 F.cell (Am b1 5)=some (Sl.v v_27)∧Ca 114 #[(.int .i64 0)] F fun v_29 F=>
 F.cell (Am b1 5)=some (Sl.v v_27)∧Ca 40 #[(.int .i64 4)] F fun v_30 F=>
 F.cell (Am b1 5)=some (Sl.v v_27)∧v_28.size=2∧v_29.size=2∧v_30.size=2∧Nb F (.cells (wr (wr (wr (#[.bool false,.int .i64 0,.bool false,.int .i64 0,.bool false,.int .i64 0]:Array Value) 0 v_28.toList) 2 v_29.toList) 4 v_30.toList) 69) fun b31 F=>
 Ca 39 #[(.string ⟨#[98,114,97,99,107,101,116]⟩),(.int .i64 0),(Sl.v (Sb b31 3))] F fun v_32 F=>
 F.cell (Am b1 5)=some (Sl.v v_27)∧v_32.size=13∧Nb F (.cells v_32 67) fun b33 F=>
 Ap 35 #[(Sl.v v_27),(Sl.v (Sb b33 1))] F fun v_34 F=>
 sto F (Am b1 5) (Sl.v v_34) fun F=>
 Ls F (Am b1 5) fun v_37=>
 Ca 40 #[(.int .i64 0)] F fun v_38 F=>
 F.cell (Am b1 5)=some (Sl.v v_37)∧v_38.size=2∧Nb F (.cells v_38 69) fun b39 F=>
 Ca 39 #[(.string ⟨#[110,97,109,101]⟩),(.int .i64 0),(Sl.v (Sb b39 1))] F fun v_40 F=>
 F.cell (Am b1 5)=some (Sl.v v_37)∧v_40.size=13∧Nb F (.cells v_40 67) fun b41 F=>
 Ap 35 #[(Sl.v v_37),(Sl.v (Sb b41 1))] F fun v_42 F=>
 sto F (Am b1 5) (Sl.v v_42) fun F=>
 Ls F (Am b1 5) fun v_45=>
 Ca 114 #[(.int .i64 0)] F fun v_46 F=>
 F.cell (Am b1 5)=some (Sl.v v_45)∧Ca 40 #[(.int .i64 8)] F fun v_47 F=>
 F.cell (Am b1 5)=some (Sl.v v_45)∧Ca 114 #[(.int .i64 0)] F fun v_48 F=>
 F.cell (Am b1 5)=some (Sl.v v_45)∧v_46.size=2∧v_47.size=2∧v_48.size=2∧Nb F (.cells (wr (wr (wr (#[.bool false,.int .i64 0,.bool false,.int .i64 0,.bool false,.int .i64 0]:Array Value) 0 v_46.toList) 2 v_47.toList) 4 v_48.toList) 69) fun b49 F=>
 Ca 39 #[(.string ⟨#[112,111,119]⟩),(.int .i64 0),(Sl.v (Sb b49 3))] F fun v_50 F=>
 F.cell (Am b1 5)=some (Sl.v v_45)∧v_50.size=13∧Nb F (.cells v_50 67) fun b51 F=>
 Ap 35 #[(Sl.v v_45),(Sl.v (Sb b51 1))] F fun v_52 F=>
 sto F (Am b1 5) (Sl.v v_52) fun F=>
 Ls F (Am b1 5) fun v_55=>
 Ix v_55 2 fun a56_=>
 sto F (Addr.add (Addr.add a56_ (Int.toNat 2*13)) 5) (.bool true) fun F=>
 Ls F (Am b1 5) fun v_59=>
 Ca 96 #[(.int .i64 1)] F fun v_60 F=>
 F.cell (Am b1 5)=some (Sl.v v_59)∧Ix v_59 4 fun a61_=>
 aA F (Addr.add (Addr.add a61_ (Int.toNat 4*13)) 3) 2 v_60 fun F=>
 Lr F 2 (Am b2 0) fun v_64=>
 Lr F 2 (Am b2 0) fun v_67=>
 ((Nb F (.cells #[(.int .i64 4)] 3) fun b63 F=>
 tD v_64 v_67 b2 b63 b1 b0 R F)∧
 (Nb F (.cells #[(.int .i64 1)] 3) fun b66_6 F=>
 pM v_67 v_64 b2 b66_6 b1 b0 R F)∧
 (Nb F (.cells #[(.int .i64 0)] 3) fun b69_14 F=>
 pU v_64 v_67 b2 b69_14 b1 b0 R F)∧
 (Ca 96 #[(.int .i64 0)] F fun v_70_12 F=>
 F.row (Am b2 0) v_67∧F.row (Am b2 0) v_64∧p9 v_64 v_67 v_70_12 b2 b1 b0 R F))
theorem N4 (h:HH R F):ac prog 107 #[] F R:=Rx.sxC (args:=[]) .N (by kernel_rfl) h
def nD (b0 b1:Nat) (R:VR) (F:PH):Prop:=
 Ls F (Am b1 8) fun v_67=>
 Ca 96 #[(.int .i64 1)] F fun v_68 F=>
 F.cell (Am b1 8)=some (Sl.v v_67)∧Ix v_67 1 fun a69_=>
 aA F (Addr.add (Addr.add a69_ (Int.toNat 1*9)) 7) 2 v_68 fun F=>
 Lr F 9 (Am b1 0) fun v_71=>
 aA F (Am b0 0) 9 v_71 fun F=>
 Rr 9 (Am b0 0) R F
def HI (R:VR) (F:PH):Prop:=
 Nb F (.cells zG 39) fun b0 F=>
 Nb F (.cells #[(.string ⟨#[83]⟩),(.string ⟨#[67]⟩)] 9) fun b3 F=>
 Ca 38 #[(Sl.v (Sb b3 2))] F fun v_4 F=>
 Nb F (.cells zG 39) fun b1 F=>
 aA F (Am b1 0) 9 v_4 fun F=>
 Ca 89 #[(.bool true)] F fun v_5 F=>
 Nb F (.cells zD 33) fun b2 F=>
 aA F (Am b2 0) 2 v_5 fun F=>
 Ls F (Am b1 5) fun v_7=>
 Ca 40 #[(.int .i64 5)] F fun v_8 F=>
 F.cell (Am b1 5)=some (Sl.v v_7)∧Ca 114 #[(.int .i64 1)] F fun v_9 F=>
 F.cell (Am b1 5)=some (Sl.v v_7)∧Ca 114 #[(.int .i64 0)] F fun v_10 F=>
 F.cell (Am b1 5)=some (Sl.v v_7)∧Ca 40 #[(.int .i64 6)] F fun v_11 F=>
 F.cell (Am b1 5)=some (Sl.v v_7)∧Ca 114 #[(.int .i64 0)] F fun v_12 F=>
 F.cell (Am b1 5)=some (Sl.v v_7)∧v_8.size=2∧v_9.size=2∧v_10.size=2∧v_11.size=2∧v_12.size=2∧Nb F (.cells (wr (wr (wr (wr (wr (#[.bool false,.int .i64 0,.bool false,.int .i64 0,.bool false,.int .i64 0,.bool false,.int .i64 0,.bool false,.int .i64 0]:Array Value) 0 v_8.toList) 2 v_9.toList) 4 v_10.toList) 6 v_11.toList) 8 v_12.toList) 69) fun b13 F=>
 Ca 39 #[(.string ⟨#[98,111,116,104]⟩),(.int .i64 0),(Sl.v (Sb b13 5))] F fun v_14 F=>
 F.cell (Am b1 5)=some (Sl.v v_7)∧v_14.size=13∧Nb F (.cells v_14 67) fun b15 F=>
 Ap 35 #[(Sl.v v_7),(Sl.v (Sb b15 1))] F fun v_16 F=>
 sto F (Am b1 5) (Sl.v v_16) fun F=>
 Ls F (Am b1 5) fun v_19=>
 Ca 40 #[(.int .i64 5)] F fun v_20 F=>
 F.cell (Am b1 5)=some (Sl.v v_19)∧Ca 114 #[(.int .i64 1)] F fun v_21 F=>
 F.cell (Am b1 5)=some (Sl.v v_19)∧Ca 114 #[(.int .i64 0)] F fun v_22 F=>
 F.cell (Am b1 5)=some (Sl.v v_19)∧v_20.size=2∧v_21.size=2∧v_22.size=2∧Nb F (.cells (wr (wr (wr (#[.bool false,.int .i64 0,.bool false,.int .i64 0,.bool false,.int .i64 0]:Array Value) 0 v_20.toList) 2 v_21.toList) 4 v_22.toList) 69) fun b23 F=>
 Ca 39 #[(.string ⟨#[116,104,101,110]⟩),(.int .i64 0),(Sl.v (Sb b23 3))] F fun v_24 F=>
 F.cell (Am b1 5)=some (Sl.v v_19)∧v_24.size=13∧Nb F (.cells v_24 67) fun b25 F=>
 Ap 35 #[(Sl.v v_19),(Sl.v (Sb b25 1))] F fun v_26 F=>
 sto F (Am b1 5) (Sl.v v_26) fun F=>
 Ls F (Am b1 5) fun v_29=>
 Ca 114 #[(.int .i64 1)] F fun v_30 F=>
 F.cell (Am b1 5)=some (Sl.v v_29)∧Ca 40 #[(.int .i64 7)] F fun v_31 F=>
 F.cell (Am b1 5)=some (Sl.v v_29)∧v_30.size=2∧v_31.size=2∧Nb F (.cells (wr (wr (#[.bool false,.int .i64 0,.bool false,.int .i64 0]:Array Value) 0 v_30.toList) 2 v_31.toList) 69) fun b32 F=>
 Ca 39 #[(.string ⟨#[99,97,108,108]⟩),(.int .i64 0),(Sl.v (Sb b32 2))] F fun v_33 F=>
 F.cell (Am b1 5)=some (Sl.v v_29)∧v_33.size=13∧Nb F (.cells v_33 67) fun b34 F=>
 Ap 35 #[(Sl.v v_29),(Sl.v (Sb b34 1))] F fun v_35 F=>
 sto F (Am b1 5) (Sl.v v_35) fun F=>
 Ls F (Am b1 5) fun v_38=>
 Ca 40 #[(.int .i64 3)] F fun v_39 F=>
 F.cell (Am b1 5)=some (Sl.v v_38)∧Ca 114 #[(.int .i64 0)] F fun v_40 F=>
 F.cell (Am b1 5)=some (Sl.v v_38)∧Ca 40 #[(.int .i64 4)] F fun v_41 F=>
 F.cell (Am b1 5)=some (Sl.v v_38)∧v_39.size=2∧v_40.size=2∧v_41.size=2∧Nb F (.cells (wr (wr (wr (#[.bool false,.int .i64 0,.bool false,.int .i64 0,.bool false,.int .i64 0]:Array Value) 0 v_39.toList) 2 v_40.toList) 4 v_41.toList) 69) fun b42 F=>
 Ca 39 #[(.string ⟨#[98,108,111,99,107]⟩),(.int .i64 0),(Sl.v (Sb b42 3))] F fun v_43 F=>
 F.cell (Am b1 5)=some (Sl.v v_38)∧v_43.size=13∧Nb F (.cells v_43 67) fun b44 F=>
 Ap 35 #[(Sl.v v_38),(Sl.v (Sb b44 1))] F fun v_45 F=>
 sto F (Am b1 5) (Sl.v v_45) fun F=>
 Ls F (Am b1 5) fun v_48=>
 Ca 40 #[(.int .i64 0)] F fun v_49 F=>
 F.cell (Am b1 5)=some (Sl.v v_48)∧v_49.size=2∧Nb F (.cells v_49 69) fun b50 F=>
 Ca 39 #[(.string ⟨#[119,111,114,100]⟩),(.int .i64 1),(Sl.v (Sb b50 1))] F fun v_51 F=>
 F.cell (Am b1 5)=some (Sl.v v_48)∧v_51.size=13∧Nb F (.cells v_51 67) fun b52 F=>
 Ap 35 #[(Sl.v v_48),(Sl.v (Sb b52 1))] F fun v_53 F=>
 sto F (Am b1 5) (Sl.v v_53) fun F=>
 Ls F (Am b1 5) fun v_56=>
 Ix v_56 3 fun a57_=>
 sto F (Addr.add (Addr.add a57_ (Int.toNat 3*13)) 5) (.bool true) fun F=>
 Lr F 2 (Am b2 0) fun v_62=>
 ((Ca 96 #[(.int .i64 0)] F fun v_59 F=>
 F.row (Am b2 0) v_62∧v_59.size=2∧Nb F (.cells #[(.int .i64 5),(.int .i64 6)] 3) fun b61 F=>
 v_62.size=2∧(wr (Array.setIfInBounds (Array.setIfInBounds (Array.setIfInBounds zF 0 (.int .i64 2)) 2 (.int .i64 2)) 3 (.int .i64 1)) 7 v_59.toList).size=9∧(wr (Array.setIfInBounds (Array.setIfInBounds zF 0 (.int .i64 5)) 6 (Sl.v (Sb b61 2))) 7 v_62.toList).size=9∧Nb F (.cells (wr (wr (#[.int .i64 0,.int .i64 0,.int .i64 0,.int .i64 0,.int .i64 0,.int .i64 0,.slice none 0 0,.slice none 0 0,.int .i64 0,.int .i64 0,.int .i64 0,.int .i64 0,.int .i64 0,.int .i64 0,.int .i64 0,.slice none 0 0,.slice none 0 0,.int .i64 0]:Array Value) 0 (wr (Array.setIfInBounds (Array.setIfInBounds (Array.setIfInBounds zF 0 (.int .i64 2)) 2 (.int .i64 2)) 3 (.int .i64 1)) 7 v_59.toList).toList) 9 (wr (Array.setIfInBounds (Array.setIfInBounds zF 0 (.int .i64 5)) 6 (Sl.v (Sb b61 2))) 7 v_62.toList).toList) 74) fun b64 F=>
 sto F (Am b1 8) (Sl.v (Sb b64 2)) fun F=>
 nD b0 b1 R F)∧
 (Nb F (.cells #[(.int .i64 5),(.int .i64 6)] 3) fun b61_1 F=>
 v_62.size=2∧Ca 96 #[(.int .i64 0)] F fun v_59_1 F=>
 F.row (Am b2 0) v_62∧v_59_1.size=2∧(wr (Array.setIfInBounds (Array.setIfInBounds (Array.setIfInBounds zF 0 (.int .i64 2)) 2 (.int .i64 2)) 3 (.int .i64 1)) 7 v_59_1.toList).size=9∧(wr (Array.setIfInBounds (Array.setIfInBounds zF 0 (.int .i64 5)) 6 (Sl.v (Sb b61_1 2))) 7 v_62.toList).size=9∧Nb F (.cells (wr (wr (#[.int .i64 0,.int .i64 0,.int .i64 0,.int .i64 0,.int .i64 0,.int .i64 0,.slice none 0 0,.slice none 0 0,.int .i64 0,.int .i64 0,.int .i64 0,.int .i64 0,.int .i64 0,.int .i64 0,.int .i64 0,.slice none 0 0,.slice none 0 0,.int .i64 0]:Array Value) 0 (wr (Array.setIfInBounds (Array.setIfInBounds (Array.setIfInBounds zF 0 (.int .i64 2)) 2 (.int .i64 2)) 3 (.int .i64 1)) 7 v_59_1.toList).toList) 9 (wr (Array.setIfInBounds (Array.setIfInBounds zF 0 (.int .i64 5)) 6 (Sl.v (Sb b61_1 2))) 7 v_62.toList).toList) 74) fun b64_1 F=>
 sto F (Am b1 8) (Sl.v (Sb b64_1 2)) fun F=>
 nD b0 b1 R F))
theorem N5 (h:HI R F):ac prog 108 #[] F R:=Rx.sxC (args:=[]) (.T .N (.T .N (.T .N (.T .N (.T .N (.T .N (.T .N (.T .N (.T .N (.J false [] .N .N)))))))))) (by kernel_rfl) h
def HJ (R:VR) (F:PH):Prop:=
 Nb F (.cells zG 39) fun b0 F=>
 Nb F (.cells #[(.string ⟨#[76]⟩),(.string ⟨#[73]⟩)] 9) fun b2 F=>
 Ca 38 #[(Sl.v (Sb b2 2))] F fun v_3 F=>
 Nb F (.cells zG 39) fun b1 F=>
 aA F (Am b1 0) 9 v_3 fun F=>
 Ls F (Am b1 5) fun v_5=>
 Nb F (.cells #[] 69) fun b6 F=>
 Ca 39 #[(.string ⟨#[101,109,112,116,121]⟩),(.int .i64 0),(Sl.v (Sb b6 0))] F fun v_7 F=>
 F.cell (Am b1 5)=some (Sl.v v_5)∧v_7.size=13∧Nb F (.cells v_7 67) fun b8 F=>
 Ap 35 #[(Sl.v v_5),(Sl.v (Sb b8 1))] F fun v_9 F=>
 sto F (Am b1 5) (Sl.v v_9) fun F=>
 Ls F (Am b1 5) fun v_12=>
 Ca 114 #[(.int .i64 0)] F fun v_13 F=>
 F.cell (Am b1 5)=some (Sl.v v_12)∧Ca 114 #[(.int .i64 1)] F fun v_14 F=>
 F.cell (Am b1 5)=some (Sl.v v_12)∧v_13.size=2∧v_14.size=2∧Nb F (.cells (wr (wr (#[.bool false,.int .i64 0,.bool false,.int .i64 0]:Array Value) 0 v_13.toList) 2 v_14.toList) 69) fun b15 F=>
 Ca 39 #[(.string ⟨#[109,111,114,101]⟩),(.int .i64 0),(Sl.v (Sb b15 2))] F fun v_16 F=>
 F.cell (Am b1 5)=some (Sl.v v_12)∧v_16.size=13∧Nb F (.cells v_16 67) fun b17 F=>
 Ap 35 #[(Sl.v v_12),(Sl.v (Sb b17 1))] F fun v_18 F=>
 sto F (Am b1 5) (Sl.v v_18) fun F=>
 Ls F (Am b1 5) fun v_21=>
 Ca 40 #[(.int .i64 1)] F fun v_22 F=>
 F.cell (Am b1 5)=some (Sl.v v_21)∧Ca 40 #[(.int .i64 0)] F fun v_23 F=>
 F.cell (Am b1 5)=some (Sl.v v_21)∧Ca 40 #[(.int .i64 7)] F fun v_24 F=>
 F.cell (Am b1 5)=some (Sl.v v_21)∧v_22.size=2∧v_23.size=2∧v_24.size=2∧Nb F (.cells (wr (wr (wr (#[.bool false,.int .i64 0,.bool false,.int .i64 0,.bool false,.int .i64 0]:Array Value) 0 v_22.toList) 2 v_23.toList) 4 v_24.toList) 69) fun b25 F=>
 Ca 39 #[(.string ⟨#[116,121,112,101]⟩),(.int .i64 1),(Sl.v (Sb b25 3))] F fun v_26 F=>
 F.cell (Am b1 5)=some (Sl.v v_21)∧v_26.size=13∧Nb F (.cells v_26 67) fun b27 F=>
 Ap 35 #[(Sl.v v_21),(Sl.v (Sb b27 1))] F fun v_28 F=>
 sto F (Am b1 5) (Sl.v v_28) fun F=>
 Ls F (Am b1 5) fun v_31=>
 Ca 40 #[(.int .i64 0)] F fun v_32 F=>
 F.cell (Am b1 5)=some (Sl.v v_31)∧Ca 40 #[(.int .i64 2)] F fun v_33 F=>
 F.cell (Am b1 5)=some (Sl.v v_31)∧Ca 40 #[(.int .i64 0)] F fun v_34 F=>
 F.cell (Am b1 5)=some (Sl.v v_31)∧Ca 40 #[(.int .i64 7)] F fun v_35 F=>
 F.cell (Am b1 5)=some (Sl.v v_31)∧v_32.size=2∧v_33.size=2∧v_34.size=2∧v_35.size=2∧Nb F (.cells (wr (wr (wr (wr (#[.bool false,.int .i64 0,.bool false,.int .i64 0,.bool false,.int .i64 0,.bool false,.int .i64 0]:Array Value) 0 v_32.toList) 2 v_33.toList) 4 v_34.toList) 6 v_35.toList) 69) fun b36 F=>
 Ca 39 #[(.string ⟨#[112,111,105,110,116,101,114]⟩),(.int .i64 1),(Sl.v (Sb b36 4))] F fun v_37 F=>
 F.cell (Am b1 5)=some (Sl.v v_31)∧v_37.size=13∧Nb F (.cells v_37 67) fun b38 F=>
 Ap 35 #[(Sl.v v_31),(Sl.v (Sb b38 1))] F fun v_39 F=>
 sto F (Am b1 5) (Sl.v v_39) fun F=>
 Ls F (Am b1 5) fun v_42=>
 Ca 40 #[(.int .i64 0)] F fun v_43 F=>
 F.cell (Am b1 5)=some (Sl.v v_42)∧Ca 40 #[(.int .i64 2)] F fun v_44 F=>
 F.cell (Am b1 5)=some (Sl.v v_42)∧Ca 40 #[(.int .i64 0)] F fun v_45 F=>
 F.cell (Am b1 5)=some (Sl.v v_42)∧Ca 40 #[(.int .i64 7)] F fun v_46 F=>
 F.cell (Am b1 5)=some (Sl.v v_42)∧v_43.size=2∧v_44.size=2∧v_45.size=2∧v_46.size=2∧Nb F (.cells (wr (wr (wr (wr (#[.bool false,.int .i64 0,.bool false,.int .i64 0,.bool false,.int .i64 0,.bool false,.int .i64 0]:Array Value) 0 v_43.toList) 2 v_44.toList) 4 v_45.toList) 6 v_46.toList) 69) fun b47 F=>
 Ca 39 #[(.string ⟨#[112,114,111,100,117,99,116]⟩),(.int .i64 1),(Sl.v (Sb b47 4))] F fun v_48 F=>
 F.cell (Am b1 5)=some (Sl.v v_42)∧v_48.size=13∧Nb F (.cells v_48 67) fun b49 F=>
 Ap 35 #[(Sl.v v_42),(Sl.v (Sb b49 1))] F fun v_50 F=>
 sto F (Am b1 5) (Sl.v v_50) fun F=>
 Ls F (Am b1 5) fun v_53=>
 Ca 40 #[(.int .i64 3)] F fun v_54 F=>
 F.cell (Am b1 5)=some (Sl.v v_53)∧Ca 114 #[(.int .i64 0)] F fun v_55 F=>
 F.cell (Am b1 5)=some (Sl.v v_53)∧Ca 40 #[(.int .i64 4)] F fun v_56 F=>
 F.cell (Am b1 5)=some (Sl.v v_53)∧v_54.size=2∧v_55.size=2∧v_56.size=2∧Nb F (.cells (wr (wr (wr (#[.bool false,.int .i64 0,.bool false,.int .i64 0,.bool false,.int .i64 0]:Array Value) 0 v_54.toList) 2 v_55.toList) 4 v_56.toList) 69) fun b57 F=>
 Ca 39 #[(.string ⟨#[105,110,110,101,114]⟩),(.int .i64 1),(Sl.v (Sb b57 3))] F fun v_58 F=>
 F.cell (Am b1 5)=some (Sl.v v_53)∧v_58.size=13∧Nb F (.cells v_58 67) fun b59 F=>
 Ap 35 #[(Sl.v v_53),(Sl.v (Sb b59 1))] F fun v_60 F=>
 sto F (Am b1 5) (Sl.v v_60) fun F=>
 Ls F (Am b1 5) fun v_63=>
 Ca 40 #[(.int .i64 0)] F fun v_64 F=>
 F.cell (Am b1 5)=some (Sl.v v_63)∧Ca 40 #[(.int .i64 7)] F fun v_65 F=>
 F.cell (Am b1 5)=some (Sl.v v_63)∧v_64.size=2∧v_65.size=2∧Nb F (.cells (wr (wr (#[.bool false,.int .i64 0,.bool false,.int .i64 0]:Array Value) 0 v_64.toList) 2 v_65.toList) 69) fun b66 F=>
 Ca 39 #[(.string ⟨#[115,116,114,105,99,116]⟩),(.int .i64 1),(Sl.v (Sb b66 2))] F fun v_67 F=>
 F.cell (Am b1 5)=some (Sl.v v_63)∧v_67.size=13∧Nb F (.cells v_67 67) fun b68 F=>
 Ap 35 #[(Sl.v v_63),(Sl.v (Sb b68 1))] F fun v_69 F=>
 sto F (Am b1 5) (Sl.v v_69) fun F=>
 Ls F (Am b1 5) fun v_72=>
 Ix v_72 2 fun a74_=>
 aA F (Addr.add (Addr.add a74_ (Int.toNat 2*13)) 8) 5 (#[.bool false,(.int .i64 2),(.int .i64 1),.int .i64 0,.int .i64 0]:Array Value) fun F=>
 Ls F (Am b1 5) fun v_77=>
 Ix v_77 3 fun a79_=>
 aA F (Addr.add (Addr.add a79_ (Int.toNat 3*13)) 8) 5 (#[.bool false,(.int .i64 3),(.int .i64 2),(.int .i64 1),(.int .i64 2)]:Array Value) fun F=>
 Ls F (Am b1 5) fun v_82=>
 Ix v_82 4 fun a84_=>
 aA F (Addr.add (Addr.add a84_ (Int.toNat 4*13)) 8) 5 (#[.bool false,.int .i64 0,.int .i64 0,(.int .i64 1),(.int .i64 5)]:Array Value) fun F=>
 Ls F (Am b1 5) fun v_87=>
 Ix v_87 5 fun a89_=>
 aA F (Addr.add (Addr.add a89_ (Int.toNat 5*13)) 8) 5 (#[(.bool true),.int .i64 0,.int .i64 0,.int .i64 0,.int .i64 0]:Array Value) fun F=>
 Ls F (Am b1 5) fun v_92=>
 Ix v_92 6 fun a94_=>
 aA F (Addr.add (Addr.add a94_ (Int.toNat 6*13)) 8) 5 (#[.bool false,.int .i64 0,.int .i64 0,(.int .i64 1),(.int .i64 6)]:Array Value) fun F=>
 Ls F (Am b1 5) fun v_97=>
 Ix v_97 4 fun a98_=>
 sto F (Addr.add (Addr.add a98_ (Int.toNat 4*13)) 6) (.int .i64 (-1:Int)) fun F=>
 Ls F (Am b1 5) fun v_101=>
 Ca 96 #[(.int .i64 0)] F fun v_102 F=>
 F.cell (Am b1 5)=some (Sl.v v_101)∧Ix v_101 6 fun a103_=>
 aA F (Addr.add (Addr.add a103_ (Int.toNat 6*13)) 3) 2 v_102 fun F=>
 Lr F 9 (Am b1 0) fun v_105=>
 aA F (Am b0 0) 9 v_105 fun F=>
 Rr 9 (Am b0 0) R F
theorem N6 (h:HJ R F):ac prog 109 #[] F R:=Rx.sxC (args:=[]) .N (by kernel_rfl) h
def HK (R:VR) (F:PH):Prop:=
 Nb F (.cells zG 39) fun b0 F=>
 Nb F (.cells #[(.string ⟨#[66]⟩),(.string ⟨#[73]⟩)] 9) fun b2 F=>
 Ca 38 #[(Sl.v (Sb b2 2))] F fun v_3 F=>
 Nb F (.cells zG 39) fun b1 F=>
 aA F (Am b1 0) 9 v_3 fun F=>
 Ls F (Am b1 5) fun v_5=>
 Ca 114 #[(.int .i64 1)] F fun v_6 F=>
 F.cell (Am b1 5)=some (Sl.v v_5)∧v_6.size=2∧Nb F (.cells v_6 69) fun b7 F=>
 Ca 39 #[(.string ⟨#[111,110,101]⟩),(.int .i64 0),(Sl.v (Sb b7 1))] F fun v_8 F=>
 F.cell (Am b1 5)=some (Sl.v v_5)∧v_8.size=13∧Nb F (.cells v_8 67) fun b9 F=>
 Ap 35 #[(Sl.v v_5),(Sl.v (Sb b9 1))] F fun v_10 F=>
 sto F (Am b1 5) (Sl.v v_10) fun F=>
 Ls F (Am b1 5) fun v_13=>
 Ca 114 #[(.int .i64 0)] F fun v_14 F=>
 F.cell (Am b1 5)=some (Sl.v v_13)∧Ca 114 #[(.int .i64 1)] F fun v_15 F=>
 F.cell (Am b1 5)=some (Sl.v v_13)∧v_14.size=2∧v_15.size=2∧Nb F (.cells (wr (wr (#[.bool false,.int .i64 0,.bool false,.int .i64 0]:Array Value) 0 v_14.toList) 2 v_15.toList) 69) fun b16 F=>
 Ca 39 #[(.string ⟨#[108,105,115,116]⟩),(.int .i64 0),(Sl.v (Sb b16 2))] F fun v_17 F=>
 F.cell (Am b1 5)=some (Sl.v v_13)∧v_17.size=13∧Nb F (.cells v_17 67) fun b18 F=>
 Ap 35 #[(Sl.v v_13),(Sl.v (Sb b18 1))] F fun v_19 F=>
 sto F (Am b1 5) (Sl.v v_19) fun F=>
 Ls F (Am b1 5) fun v_22=>
 Ca 40 #[(.int .i64 0)] F fun v_23 F=>
 F.cell (Am b1 5)=some (Sl.v v_22)∧v_23.size=2∧Nb F (.cells v_23 69) fun b24 F=>
 Ca 39 #[(.string ⟨#[119,111,114,100]⟩),(.int .i64 1),(Sl.v (Sb b24 1))] F fun v_25 F=>
 F.cell (Am b1 5)=some (Sl.v v_22)∧v_25.size=13∧Nb F (.cells v_25 67) fun b26 F=>
 Ap 35 #[(Sl.v v_22),(Sl.v (Sb b26 1))] F fun v_27 F=>
 sto F (Am b1 5) (Sl.v v_27) fun F=>
 Ls F (Am b1 5) fun v_30=>
 Ca 40 #[(.int .i64 5)] F fun v_31 F=>
 F.cell (Am b1 5)=some (Sl.v v_30)∧Ca 40 #[(.int .i64 0)] F fun v_32 F=>
 F.cell (Am b1 5)=some (Sl.v v_30)∧Ca 114 #[(.int .i64 0)] F fun v_33 F=>
 F.cell (Am b1 5)=some (Sl.v v_30)∧v_31.size=2∧v_32.size=2∧v_33.size=2∧Nb F (.cells (wr (wr (wr (#[.bool false,.int .i64 0,.bool false,.int .i64 0,.bool false,.int .i64 0]:Array Value) 0 v_31.toList) 2 v_32.toList) 4 v_33.toList) 69) fun b34 F=>
 Ca 39 #[(.string ⟨#[104,101,97,100]⟩),(.int .i64 1),(Sl.v (Sb b34 3))] F fun v_35 F=>
 F.cell (Am b1 5)=some (Sl.v v_30)∧v_35.size=13∧Nb F (.cells v_35 67) fun b36 F=>
 Ap 35 #[(Sl.v v_30),(Sl.v (Sb b36 1))] F fun v_37 F=>
 sto F (Am b1 5) (Sl.v v_37) fun F=>
 Ls F (Am b1 5) fun v_40=>
 Ca 40 #[(.int .i64 5)] F fun v_41 F=>
 F.cell (Am b1 5)=some (Sl.v v_40)∧Ca 114 #[(.int .i64 0)] F fun v_42 F=>
 F.cell (Am b1 5)=some (Sl.v v_40)∧v_41.size=2∧v_42.size=2∧Nb F (.cells (wr (wr (#[.bool false,.int .i64 0,.bool false,.int .i64 0]:Array Value) 0 v_41.toList) 2 v_42.toList) 69) fun b43 F=>
 Ca 39 #[(.string ⟨#[108,105,110,101]⟩),(.int .i64 1),(Sl.v (Sb b43 2))] F fun v_44 F=>
 F.cell (Am b1 5)=some (Sl.v v_40)∧v_44.size=13∧Nb F (.cells v_44 67) fun b45 F=>
 Ap 35 #[(Sl.v v_40),(Sl.v (Sb b45 1))] F fun v_46 F=>
 sto F (Am b1 5) (Sl.v v_46) fun F=>
 Ls F (Am b1 5) fun v_49=>
 (#[(.int .i64 2),(.int .i64 0),(.int .i64 1)]:Array Value).size=3∧Nb F (.cells (#[(.int .i64 2),(.int .i64 0),(.int .i64 1)]:Array Value) 101) fun b51 F=>
 Ix v_49 1 fun a52_=>
 sto F (Addr.add (Addr.add a52_ (Int.toNat 1*13)) 7) (Sl.v (Sb b51 1)) fun F=>
 Ls F (Am b1 5) fun v_55=>
 (#[(.int .i64 3),(.int .i64 0),(.int .i64 2)]:Array Value).size=3∧(#[(.int .i64 1),(.int .i64 2),.int .i64 0]:Array Value).size=3∧Nb F (.cells (wr (wr (#[.int .i64 0,.int .i64 0,.int .i64 0,.int .i64 0,.int .i64 0,.int .i64 0]:Array Value) 0 (#[(.int .i64 3),(.int .i64 0),(.int .i64 2)]:Array Value).toList) 3 (#[(.int .i64 1),(.int .i64 2),.int .i64 0]:Array Value).toList) 101) fun b58 F=>
 Ix v_55 3 fun a59_=>
 sto F (Addr.add (Addr.add a59_ (Int.toNat 3*13)) 7) (Sl.v (Sb b58 2)) fun F=>
 Ls F (Am b1 5) fun v_62=>
 (#[(.int .i64 4),(.int .i64 0),(.int .i64 1)]:Array Value).size=3∧Nb F (.cells (#[(.int .i64 4),(.int .i64 0),(.int .i64 1)]:Array Value) 101) fun b64 F=>
 Ix v_62 4 fun a65_=>
 sto F (Addr.add (Addr.add a65_ (Int.toNat 4*13)) 7) (Sl.v (Sb b64 1)) fun F=>
 Ls F (Am b1 5) fun v_68=>
 Ca 96 #[(.int .i64 0)] F fun v_69 F=>
 F.cell (Am b1 5)=some (Sl.v v_68)∧Ix v_68 4 fun a70_=>
 aA F (Addr.add (Addr.add a70_ (Int.toNat 4*13)) 3) 2 v_69 fun F=>
 Lr F 9 (Am b1 0) fun v_72=>
 aA F (Am b0 0) 9 v_72 fun F=>
 Rr 9 (Am b0 0) R F
theorem N7 (h:HK R F):ac prog 110 #[] F R:=Rx.sxC (args:=[]) .N (by kernel_rfl) h
def HM (R:VR) (F:PH):Prop:=
 Nb F (.cells zG 39) fun b0 F=>
 Nb F (.cells #[(.string ⟨#[83]⟩),(.string ⟨#[87]⟩),(.string ⟨#[86]⟩)] 9) fun b2 F=>
 Ca 38 #[(Sl.v (Sb b2 3))] F fun v_3 F=>
 Nb F (.cells zG 39) fun b1 F=>
 aA F (Am b1 0) 9 v_3 fun F=>
 Ls F (Am b1 5) fun v_5=>
 Ca 114 #[(.int .i64 1)] F fun v_6 F=>
 F.cell (Am b1 5)=some (Sl.v v_5)∧Ca 114 #[(.int .i64 2)] F fun v_7 F=>
 F.cell (Am b1 5)=some (Sl.v v_5)∧v_6.size=2∧v_7.size=2∧Nb F (.cells (wr (wr (#[.bool false,.int .i64 0,.bool false,.int .i64 0]:Array Value) 0 v_6.toList) 2 v_7.toList) 69) fun b8 F=>
 Ca 39 #[(.string ⟨#[112,97,105,114]⟩),(.int .i64 0),(Sl.v (Sb b8 2))] F fun v_9 F=>
 F.cell (Am b1 5)=some (Sl.v v_5)∧v_9.size=13∧Nb F (.cells v_9 67) fun b10 F=>
 Ap 35 #[(Sl.v v_5),(Sl.v (Sb b10 1))] F fun v_11 F=>
 sto F (Am b1 5) (Sl.v v_11) fun F=>
 Ls F (Am b1 5) fun v_14=>
 Ca 40 #[(.int .i64 0)] F fun v_15 F=>
 F.cell (Am b1 5)=some (Sl.v v_14)∧v_15.size=2∧Nb F (.cells v_15 69) fun b16 F=>
 Ca 39 #[(.string ⟨#[115,105,110,103,108,101]⟩),(.int .i64 1),(Sl.v (Sb b16 1))] F fun v_17 F=>
 F.cell (Am b1 5)=some (Sl.v v_14)∧v_17.size=13∧Nb F (.cells v_17 67) fun b18 F=>
 Ap 35 #[(Sl.v v_14),(Sl.v (Sb b18 1))] F fun v_19 F=>
 sto F (Am b1 5) (Sl.v v_19) fun F=>
 Ls F (Am b1 5) fun v_22=>
 Ca 40 #[(.int .i64 0)] F fun v_23 F=>
 F.cell (Am b1 5)=some (Sl.v v_22)∧Ca 40 #[(.int .i64 0)] F fun v_24 F=>
 F.cell (Am b1 5)=some (Sl.v v_22)∧v_23.size=2∧v_24.size=2∧Nb F (.cells (wr (wr (#[.bool false,.int .i64 0,.bool false,.int .i64 0]:Array Value) 0 v_23.toList) 2 v_24.toList) 69) fun b25 F=>
 Ca 39 #[(.string ⟨#[100,111,117,98,108,101]⟩),(.int .i64 1),(Sl.v (Sb b25 2))] F fun v_26 F=>
 F.cell (Am b1 5)=some (Sl.v v_22)∧v_26.size=13∧Nb F (.cells v_26 67) fun b27 F=>
 Ap 35 #[(Sl.v v_22),(Sl.v (Sb b27 1))] F fun v_28 F=>
 sto F (Am b1 5) (Sl.v v_28) fun F=>
 Ls F (Am b1 5) fun v_31=>
 Nb F (.cells #[] 69) fun b32 F=>
 Ca 39 #[(.string ⟨#[110,111,110,101]⟩),(.int .i64 2),(Sl.v (Sb b32 0))] F fun v_33 F=>
 F.cell (Am b1 5)=some (Sl.v v_31)∧v_33.size=13∧Nb F (.cells v_33 67) fun b34 F=>
 Ap 35 #[(Sl.v v_31),(Sl.v (Sb b34 1))] F fun v_35 F=>
 sto F (Am b1 5) (Sl.v v_35) fun F=>
 Ls F (Am b1 5) fun v_38=>
 Ca 40 #[(.int .i64 0)] F fun v_39 F=>
 F.cell (Am b1 5)=some (Sl.v v_38)∧Ca 114 #[(.int .i64 2)] F fun v_40 F=>
 F.cell (Am b1 5)=some (Sl.v v_38)∧v_39.size=2∧v_40.size=2∧Nb F (.cells (wr (wr (#[.bool false,.int .i64 0,.bool false,.int .i64 0]:Array Value) 0 v_39.toList) 2 v_40.toList) 69) fun b41 F=>
 Ca 39 #[(.string ⟨#[110,101,120,116]⟩),(.int .i64 2),(Sl.v (Sb b41 2))] F fun v_42 F=>
 F.cell (Am b1 5)=some (Sl.v v_38)∧v_42.size=13∧Nb F (.cells v_42 67) fun b43 F=>
 Ap 35 #[(Sl.v v_38),(Sl.v (Sb b43 1))] F fun v_44 F=>
 sto F (Am b1 5) (Sl.v v_44) fun F=>
 Ls F (Am b1 5) fun v_47=>
 Ca 40 #[(.int .i64 1)] F fun v_48 F=>
 F.cell (Am b1 5)=some (Sl.v v_47)∧Ca 114 #[(.int .i64 2)] F fun v_49 F=>
 F.cell (Am b1 5)=some (Sl.v v_47)∧v_48.size=2∧v_49.size=2∧Nb F (.cells (wr (wr (#[.bool false,.int .i64 0,.bool false,.int .i64 0]:Array Value) 0 v_48.toList) 2 v_49.toList) 69) fun b50 F=>
 Ca 39 #[(.string ⟨#[109,97,114,107]⟩),(.int .i64 2),(Sl.v (Sb b50 2))] F fun v_51 F=>
 F.cell (Am b1 5)=some (Sl.v v_47)∧v_51.size=13∧Nb F (.cells v_51 67) fun b52 F=>
 Ap 35 #[(Sl.v v_47),(Sl.v (Sb b52 1))] F fun v_53 F=>
 sto F (Am b1 5) (Sl.v v_53) fun F=>
 Ls F (Am b1 5) fun v_56=>
 Ix v_56 1 fun a57_=>
 sto F (Addr.add (Addr.add a57_ (Int.toNat 1*13)) 6) (.int .i64 (-1:Int)) fun F=>
 Ls F (Am b1 5) fun v_60=>
 Ca 96 #[(.int .i64 1)] F fun v_61 F=>
 F.cell (Am b1 5)=some (Sl.v v_60)∧Ix v_60 5 fun a62_=>
 aA F (Addr.add (Addr.add a62_ (Int.toNat 5*13)) 3) 2 v_61 fun F=>
 Nb F (.cells #[(.int .i64 0)] 3) fun b64 F=>
 Ca 96 #[(.int .i64 0)] F fun v_65 F=>
 v_65.size=2∧Nb F (.cells #[(.int .i64 1)] 3) fun b67 F=>
 Ca 96 #[(.int .i64 1)] F fun v_68 F=>
 Ca 97 #[(.agg v_68)] F fun v_69 F=>
 v_69.size=2∧(wr (Array.setIfInBounds (Array.setIfInBounds (Array.setIfInBounds zF 0 (.int .i64 3)) 4 (.int .i64 1)) 6 (Sl.v (Sb b64 1))) 7 v_65.toList).size=9∧(wr (Array.setIfInBounds (Array.setIfInBounds (Array.setIfInBounds zF 0 (.int .i64 4)) 4 (.int .i64 2)) 6 (Sl.v (Sb b67 1))) 7 v_69.toList).size=9∧Nb F (.cells (wr (wr (#[.int .i64 0,.int .i64 0,.int .i64 0,.int .i64 0,.int .i64 0,.int .i64 0,.slice none 0 0,.slice none 0 0,.int .i64 0,.int .i64 0,.int .i64 0,.int .i64 0,.int .i64 0,.int .i64 0,.int .i64 0,.slice none 0 0,.slice none 0 0,.int .i64 0]:Array Value) 0 (wr (Array.setIfInBounds (Array.setIfInBounds (Array.setIfInBounds zF 0 (.int .i64 3)) 4 (.int .i64 1)) 6 (Sl.v (Sb b64 1))) 7 v_65.toList).toList) 9 (wr (Array.setIfInBounds (Array.setIfInBounds (Array.setIfInBounds zF 0 (.int .i64 4)) 4 (.int .i64 2)) 6 (Sl.v (Sb b67 1))) 7 v_69.toList).toList) 74) fun b71 F=>
 sto F (Am b1 8) (Sl.v (Sb b71 2)) fun F=>
 Lr F 9 (Am b1 0) fun v_73=>
 aA F (Am b0 0) 9 v_73 fun F=>
 Rr 9 (Am b0 0) R F
theorem N8 (h:HM R F):ac prog 111 #[] F R:=Rx.sxC (args:=[]) .N (by kernel_rfl) h
def HN (R:VR) (F:PH):Prop:=
 Nb F (.cells zG 39) fun b0 F=>
 Nb F (.cells #[(.string ⟨#[83]⟩),(.string ⟨#[79]⟩),(.string ⟨#[80]⟩)] 9) fun b2 F=>
 Ca 38 #[(Sl.v (Sb b2 3))] F fun v_3 F=>
 Nb F (.cells zG 39) fun b1 F=>
 aA F (Am b1 0) 9 v_3 fun F=>
 Ls F (Am b1 5) fun v_5=>
 Ca 114 #[(.int .i64 1)] F fun v_6 F=>
 F.cell (Am b1 5)=some (Sl.v v_5)∧Ca 40 #[(.int .i64 0)] F fun v_7 F=>
 F.cell (Am b1 5)=some (Sl.v v_5)∧Ca 114 #[(.int .i64 1)] F fun v_8 F=>
 F.cell (Am b1 5)=some (Sl.v v_5)∧Ca 114 #[(.int .i64 2)] F fun v_9 F=>
 F.cell (Am b1 5)=some (Sl.v v_5)∧v_6.size=2∧v_7.size=2∧v_8.size=2∧v_9.size=2∧Nb F (.cells (wr (wr (wr (wr (#[.bool false,.int .i64 0,.bool false,.int .i64 0,.bool false,.int .i64 0,.bool false,.int .i64 0]:Array Value) 0 v_6.toList) 2 v_7.toList) 4 v_8.toList) 6 v_9.toList) 69) fun b10 F=>
 Ca 39 #[(.string ⟨#[97,108,108]⟩),(.int .i64 0),(Sl.v (Sb b10 4))] F fun v_11 F=>
 F.cell (Am b1 5)=some (Sl.v v_5)∧v_11.size=13∧Nb F (.cells v_11 67) fun b12 F=>
 Ap 35 #[(Sl.v v_5),(Sl.v (Sb b12 1))] F fun v_13 F=>
 sto F (Am b1 5) (Sl.v v_13) fun F=>
 Ls F (Am b1 5) fun v_16=>
 Nb F (.cells #[] 69) fun b17 F=>
 Ca 39 #[(.string ⟨#[110,111]⟩),(.int .i64 1),(Sl.v (Sb b17 0))] F fun v_18 F=>
 F.cell (Am b1 5)=some (Sl.v v_16)∧v_18.size=13∧Nb F (.cells v_18 67) fun b19 F=>
 Ap 35 #[(Sl.v v_16),(Sl.v (Sb b19 1))] F fun v_20 F=>
 sto F (Am b1 5) (Sl.v v_20) fun F=>
 Ls F (Am b1 5) fun v_23=>
 Ca 40 #[(.int .i64 1)] F fun v_24 F=>
 F.cell (Am b1 5)=some (Sl.v v_23)∧v_24.size=2∧Nb F (.cells v_24 69) fun b25 F=>
 Ca 39 #[(.string ⟨#[121,101,115]⟩),(.int .i64 1),(Sl.v (Sb b25 1))] F fun v_26 F=>
 F.cell (Am b1 5)=some (Sl.v v_23)∧v_26.size=13∧Nb F (.cells v_26 67) fun b27 F=>
 Ap 35 #[(Sl.v v_23),(Sl.v (Sb b27 1))] F fun v_28 F=>
 sto F (Am b1 5) (Sl.v v_28) fun F=>
 Ls F (Am b1 5) fun v_31=>
 Nb F (.cells #[] 69) fun b32 F=>
 Ca 39 #[(.string ⟨#[101,110,100]⟩),(.int .i64 2),(Sl.v (Sb b32 0))] F fun v_33 F=>
 F.cell (Am b1 5)=some (Sl.v v_31)∧v_33.size=13∧Nb F (.cells v_33 67) fun b34 F=>
 Ap 35 #[(Sl.v v_31),(Sl.v (Sb b34 1))] F fun v_35 F=>
 sto F (Am b1 5) (Sl.v v_35) fun F=>
 Ls F (Am b1 5) fun v_38=>
 Ca 40 #[(.int .i64 1)] F fun v_39 F=>
 F.cell (Am b1 5)=some (Sl.v v_38)∧Ca 114 #[(.int .i64 2)] F fun v_40 F=>
 F.cell (Am b1 5)=some (Sl.v v_38)∧v_39.size=2∧v_40.size=2∧Nb F (.cells (wr (wr (#[.bool false,.int .i64 0,.bool false,.int .i64 0]:Array Value) 0 v_39.toList) 2 v_40.toList) 69) fun b41 F=>
 Ca 39 #[(.string ⟨#[114,101,115,116]⟩),(.int .i64 2),(Sl.v (Sb b41 2))] F fun v_42 F=>
 F.cell (Am b1 5)=some (Sl.v v_38)∧v_42.size=13∧Nb F (.cells v_42 67) fun b43 F=>
 Ap 35 #[(Sl.v v_38),(Sl.v (Sb b43 1))] F fun v_44 F=>
 sto F (Am b1 5) (Sl.v v_44) fun F=>
 Ls F (Am b1 5) fun v_47=>
 Ca 96 #[(.int .i64 0)] F fun v_48 F=>
 F.cell (Am b1 5)=some (Sl.v v_47)∧Ix v_47 4 fun a49_=>
 aA F (Addr.add (Addr.add a49_ (Int.toNat 4*13)) 3) 2 v_48 fun F=>
 Lr F 9 (Am b1 0) fun v_51=>
 aA F (Am b0 0) 9 v_51 fun F=>
 Rr 9 (Am b0 0) R F
theorem N9 (h:HN R F):ac prog 112 #[] F R:=Rx.sxC (args:=[]) .N (by kernel_rfl) h
def yO (b1:Nat) (out_2:Sl) (R:VR) (F:PH):Prop:=
 Ca 172 #[(.int .i64 9),(.int .i64 10)] F fun v_39 F=>
 Ca 172 #[(.int .i64 32),(.int .i64 32)] F fun v_40 F=>
 Ca 173 #[(.int .i64 3),(.int .i64 0),(.int .i64 1)] F fun v_41 F=>
 Ca 172 #[(.int .i64 9),(.int .i64 10)] F fun v_42 F=>
 Ca 172 #[(.int .i64 32),(.int .i64 32)] F fun v_43 F=>
 Ca 173 #[(.int .i64 3),(.int .i64 3),(.int .i64 4)] F fun v_44 F=>
 Ca 173 #[(.int .i64 4),(.int .i64 5),(.int .i64 0)] F fun v_45 F=>
 Ca 173 #[(.int .i64 2),(.int .i64 2),(.int .i64 6)] F fun v_46 F=>
 v_39.size=5∧v_40.size=5∧v_41.size=5∧v_42.size=5∧v_43.size=5∧v_44.size=5∧v_45.size=5∧v_46.size=5∧Nb F (.cells (wr (wr (wr (wr (wr (wr (wr (wr (#[.int .i64 0,.int .i64 0,.int .i64 0,.int .i64 0,.int .i64 0,.int .i64 0,.int .i64 0,.int .i64 0,.int .i64 0,.int .i64 0,.int .i64 0,.int .i64 0,.int .i64 0,.int .i64 0,.int .i64 0,.int .i64 0,.int .i64 0,.int .i64 0,.int .i64 0,.int .i64 0,.int .i64 0,.int .i64 0,.int .i64 0,.int .i64 0,.int .i64 0,.int .i64 0,.int .i64 0,.int .i64 0,.int .i64 0,.int .i64 0,.int .i64 0,.int .i64 0,.int .i64 0,.int .i64 0,.int .i64 0,.int .i64 0,.int .i64 0,.int .i64 0,.int .i64 0,.int .i64 0]:Array Value) 0 v_39.toList) 5 v_40.toList) 10 v_41.toList) 15 v_42.toList) 20 v_43.toList) 25 v_44.toList) 30 v_45.toList) 35 v_46.toList) 97) fun b47 F=>
 Ca 172 #[(.int .i64 37),(.int .i64 37)] F fun v_48 F=>
 Ca 172 #[(.int .i64 97),(.int .i64 122)] F fun v_49 F=>
 Ca 172 #[(.int .i64 32),(.int .i64 32)] F fun v_50 F=>
 Ca 173 #[(.int .i64 3),(.int .i64 1),(.int .i64 2)] F fun v_51 F=>
 Ca 173 #[(.int .i64 4),(.int .i64 3),(.int .i64 0)] F fun v_52 F=>
 Ca 173 #[(.int .i64 2),(.int .i64 0),(.int .i64 4)] F fun v_53 F=>
 v_48.size=5∧v_49.size=5∧v_50.size=5∧v_51.size=5∧v_52.size=5∧v_53.size=5∧Nb F (.cells (wr (wr (wr (wr (wr (wr (#[.int .i64 0,.int .i64 0,.int .i64 0,.int .i64 0,.int .i64 0,.int .i64 0,.int .i64 0,.int .i64 0,.int .i64 0,.int .i64 0,.int .i64 0,.int .i64 0,.int .i64 0,.int .i64 0,.int .i64 0,.int .i64 0,.int .i64 0,.int .i64 0,.int .i64 0,.int .i64 0,.int .i64 0,.int .i64 0,.int .i64 0,.int .i64 0,.int .i64 0,.int .i64 0,.int .i64 0,.int .i64 0,.int .i64 0,.int .i64 0]:Array Value) 0 v_48.toList) 5 v_49.toList) 10 v_50.toList) 15 v_51.toList) 20 v_52.toList) 25 v_53.toList) 97) fun b54 F=>
 Lr F 2 (Am b1 0) fun v_57=>
 v_57.size=2∧(wr (Array.setIfInBounds (Array.setIfInBounds (Array.setIfInBounds zT 0 (.string ⟨#[115,112,97,99,101]⟩)) 1 (.int .i64 1)) 3 (Sl.v (Sb b47 8))) 5 v_57.toList).size=7∧Nb F (.cells (wr (Array.setIfInBounds (Array.setIfInBounds (Array.setIfInBounds zT 0 (.string ⟨#[115,112,97,99,101]⟩)) 1 (.int .i64 1)) 3 (Sl.v (Sb b47 8))) 5 v_57.toList) 79) fun b59 F=>
 Ap 34 #[(Sl.v out_2),(Sl.v (Sb b59 1))] F fun v_60 F=>
 Lr F 2 (Am b1 0) fun v_63=>
 v_63.size=2∧(wr (Array.setIfInBounds (Array.setIfInBounds (Array.setIfInBounds zT 0 (.string ⟨#[114,101,109,97,114,107]⟩)) 1 (.int .i64 2)) 3 (Sl.v (Sb b54 6))) 5 v_63.toList).size=7∧Nb F (.cells (wr (Array.setIfInBounds (Array.setIfInBounds (Array.setIfInBounds zT 0 (.string ⟨#[114,101,109,97,114,107]⟩)) 1 (.int .i64 2)) 3 (Sl.v (Sb b54 6))) 5 v_63.toList) 79) fun b65 F=>
 Ap 34 #[(Sl.v v_60),(Sl.v (Sb b65 1))] F fun v_66 F=>
 R (Sl.v v_66) F
def yP (N1:Sl→Int→PH→Prop) (b1 b19:Nat) (R:VR) (out_2_1:Sl) (i_4:Int) (F:PH):Prop:=
 (Bc (i_4<((Sb b19 8).len:Int)) (
  Ix (Sb b19 8) i_4 fun a29_=>
  Lx F (Addr.add a29_ (Int.toNat i_4*1)) fun v_30=>
  Ix (Sb b19 8) i_4 fun a33_=>
  Lx F (Addr.add a33_ (Int.toNat i_4*1)) fun v_34=>
  Lr F 2 (Am b1 0) fun v_35=>
  v_35.size=2∧(wr (Array.setIfInBounds (Array.setIfInBounds zT 0 (.string v_30)) 2 (.string v_34)) 5 v_35.toList).size=7∧Nb F (.cells (wr (Array.setIfInBounds (Array.setIfInBounds zT 0 (.string v_30)) 2 (.string v_34)) 5 v_35.toList) 79) fun b37 F=>
  Ap 34 #[(Sl.v out_2_1),(Sl.v (Sb b37 1))] F fun v_38 F=>
  F.row (Am b1 0) v_35∧F.cell (Addr.add a33_ (Int.toNat i_4*1))=some (.string v_34)∧F.cell (Addr.add a29_ (Int.toNat i_4*1))=some (.string v_30)∧N1 v_38 (IntKind.i64.wrap (i_4+1)) F) (
  yO b1 out_2_1 R F))
def HO (R:VR) (F:PH):Prop:=
 Ca 89 #[(.bool true)] F fun v_7 F=>
 Nb F (.cells zD 33) fun b1 F=>
 aA F (Am b1 0) 2 v_7 fun F=>
 Lr F 2 (Am b1 0) fun v_8=>
 v_8.size=2∧(wr (Array.setIfInBounds (Array.setIfInBounds zT 0 (.string ⟨#[105,100]⟩)) 4 (.string ⟨#[120]⟩)) 5 v_8.toList).size=7∧Nb F (.cells (wr (Array.setIfInBounds (Array.setIfInBounds zT 0 (.string ⟨#[105,100]⟩)) 4 (.string ⟨#[120]⟩)) 5 v_8.toList) 79) fun b10 F=>
 Ca 172 #[(.int .i64 97),(.int .i64 122)] F fun v_12 F=>
 Ca 172 #[(.int .i64 97),(.int .i64 122)] F fun v_13 F=>
 Ca 173 #[(.int .i64 4),(.int .i64 1),(.int .i64 0)] F fun v_14 F=>
 Ca 173 #[(.int .i64 2),(.int .i64 0),(.int .i64 2)] F fun v_15 F=>
 v_12.size=5∧v_13.size=5∧v_14.size=5∧v_15.size=5∧Nb F (.cells (wr (wr (wr (wr (#[.int .i64 0,.int .i64 0,.int .i64 0,.int .i64 0,.int .i64 0,.int .i64 0,.int .i64 0,.int .i64 0,.int .i64 0,.int .i64 0,.int .i64 0,.int .i64 0,.int .i64 0,.int .i64 0,.int .i64 0,.int .i64 0,.int .i64 0,.int .i64 0,.int .i64 0,.int .i64 0]:Array Value) 0 v_12.toList) 5 v_13.toList) 10 v_14.toList) 15 v_15.toList) 97) fun b16 F=>
 Ix (Sb b10 1) 0 fun a17_=>
 sto F (Addr.add (Addr.add a17_ (Int.toNat 0*7)) 3) (Sl.v (Sb b16 4)) fun F=>
 Nb F (.cells #[(.string ⟨#[43]⟩),(.string ⟨#[42]⟩),(.string ⟨#[40]⟩),(.string ⟨#[41]⟩),(.string ⟨#[105,102]⟩),(.string ⟨#[101,108,115,101]⟩),(.string ⟨#[59]⟩),(.string ⟨#[94]⟩)] 9) fun b19 F=>
 (∃(I1:Nat→Sl→Int→PH→Prop) (m1:Nat),I1 m1 (Sb b10 1) 0 F∧∀m1 out_2_1 i_4 F,I1 m1 out_2_1 i_4 F→
  yP (nx2 I1 m1) b1 b19 R out_2_1 i_4 F)
theorem Oa (h:HO R F):ac prog 113 #[] F R:=Rx.sxC (args:=[]) (.T .N (.T .N (.T .N (.T .N (.T .N (.J false [(2,.sl)] (.T .N (.L [(2,.sl),(4,.int .i64)] .N)) .N)))))) (by kernel_rfl) h
def HP (i_0:Int) (R:VR) (F:PH):Prop:=
 Nb F (.cells (#[.bool false,.int .i64 0]) 69) fun b2 F=>
 aA F (Am b2 0) 2 (#[.bool false,(.int .i64 i_0)]:Array Value) fun F=>
 Rr 2 (Am b2 0) R F
theorem Ob {i_0:Int} (h:HP i_0 R F):ac prog 114 #[(.int .i64 i_0)] F R:=Rx.sxC (args:=[(.int .i64 i_0)]) .N (by kernel_rfl) h
def cX (b2 b4:Nat) (R:VR) (F:PH):Prop:=
 Lr F 13 (Am b2 0) fun v_93=>
 aA F (Am b4 0) 13 v_93 fun F=>
 Rr 13 (Am b4 0) R F
def HQ (p_0:Array Value) (vm_1:Int) (R:VR) (F:PH):Prop:=
 Nb F (.cells p_0 67) fun b2 F=>
 Nb F (.cells zP 67) fun b4 F=>
 Ls F (Am b2 2) fun v_8=>
 (Bc ((v_8.len:Int)=0) (
  Lr F 13 (Am b2 0) fun v_12=>
  aA F (Am b4 0) 13 v_12 fun F=>
  Rr 13 (Am b4 0) R F) (
  (Bc ((Int.tmod vm_1 8)=1) (
   sto F (Am b2 6) (.int .i64 1) fun F=>
   cX b2 b4 R F) (
   (Bc ((Int.tmod vm_1 8)=2) (
    sto F (Am b2 6) (.int .i64 (-1:Int)) fun F=>
    cX b2 b4 R F) (
    (Bc ((Int.tmod vm_1 8)=3) (
     sto F (Am b2 5) (.bool true) fun F=>
     Lr F 13 (Am b2 0) fun v_27=>
     Cbo 174 #[(.agg v_27)] F fun v_28 F=>
     sto F (Am b2 5) (.bool v_28) fun F=>
     cX b2 b4 R F) (
     (Bc ((Int.tmod vm_1 8)=4) (
      (v_8.len:Int)≠0∧(#[(.int .i64 (IntKind.i64.wrap (1+(Int.tmod (IntKind.i64.wrap (IntKind.u8.wrap (Int.tdiv vm_1 8))) 4)))),(.int .i64 (Int.tmod (IntKind.i64.wrap (Int.tdiv (IntKind.i64.wrap (IntKind.u8.wrap (Int.tdiv vm_1 8))) 4)) (v_8.len:Int))),(.int .i64 (IntKind.i64.wrap ((v_8.len:Int) - 1)))]:Array Value).size=3∧Nb F (.cells (#[(.int .i64 (IntKind.i64.wrap (1+(Int.tmod (IntKind.i64.wrap (IntKind.u8.wrap (Int.tdiv vm_1 8))) 4)))),(.int .i64 (Int.tmod (IntKind.i64.wrap (Int.tdiv (IntKind.i64.wrap (IntKind.u8.wrap (Int.tdiv vm_1 8))) 4)) (v_8.len:Int))),(.int .i64 (IntKind.i64.wrap ((v_8.len:Int) - 1)))]:Array Value) 101) fun b42 F=>
      sto F (Am b2 7) (Sl.v (Sb b42 1)) fun F=>
      (Bc ((Int.tmod (IntKind.i64.wrap (IntKind.u8.wrap (Int.tdiv vm_1 8))) 4)=0) (
       Ls F (Am b2 7) fun v_48=>
       Ix v_48 0 fun a49_=>
       sto F (Addr.add (Addr.add a49_ (Int.toNat 0*3)) 2) (.int .i64 0) fun F=>
       cX b2 b4 R F) (
       cX b2 b4 R F))) (
      (Bc ((Int.tmod vm_1 8)=5) (
       sto F (Am b2 8) (.bool true) fun F=>
       cX b2 b4 R F) (
       (Bc ((Int.tmod vm_1 8)=6) (
        Ls F (Am b2 2) fun v_58=>
        (v_8.len:Int)≠0∧Ix v_58 ((Int.tmod (IntKind.i64.wrap (IntKind.u8.wrap (Int.tdiv vm_1 8))) (v_8.len:Int))) fun a62_=>
        ∃v_64,F.cell (Addr.add a62_ (Int.toNat (Int.tmod (IntKind.i64.wrap (IntKind.u8.wrap (Int.tdiv vm_1 8))) (v_8.len:Int))*2))=some (.bool v_64)∧
        (Bb (v_64) (
         (v_8.len:Int)≠0∧aA F (Am b2 8) 5 (#[.bool false,(.int .i64 (IntKind.i64.wrap ((Int.tmod (IntKind.i64.wrap (IntKind.u8.wrap (Int.tdiv vm_1 8))) (v_8.len:Int))+1))),(.int .i64 (IntKind.i64.wrap (1+(Int.tmod (IntKind.i64.wrap (IntKind.u8.wrap (Int.tdiv vm_1 8))) 2)))),.int .i64 0,.int .i64 0]:Array Value) fun F=>
         cX b2 b4 R F) (
         cX b2 b4 R F))) (
        (Bc ((Int.tmod vm_1 8)=7) (
         Ls F (Am b2 2) fun v_77=>
         (v_8.len:Int)≠0∧Ix v_77 ((Int.tmod (IntKind.i64.wrap (IntKind.u8.wrap (Int.tdiv vm_1 8))) (v_8.len:Int))) fun a81_=>
         ∃v_83,F.cell (Addr.add a81_ (Int.toNat (Int.tmod (IntKind.i64.wrap (IntKind.u8.wrap (Int.tdiv vm_1 8))) (v_8.len:Int))*2))=some (.bool v_83)∧
         (Bb (v_83) (
          (v_8.len:Int)≠0∧aA F (Am b2 8) 5 (#[.bool false,.int .i64 0,.int .i64 0,(.int .i64 (IntKind.i64.wrap ((Int.tmod (IntKind.i64.wrap (IntKind.u8.wrap (Int.tdiv vm_1 8))) (v_8.len:Int))+1))),(.int .i64 (IntKind.i64.wrap (1+(Int.tmod (IntKind.i64.wrap (IntKind.u8.wrap (Int.tdiv vm_1 8))) 7))))]:Array Value) fun F=>
          cX b2 b4 R F) (
          cX b2 b4 R F))) (
         cX b2 b4 R F))))))))))))))))
theorem Oc {p_0:Array Value} {vm_1:Int} (h:HQ p_0 vm_1 R F):ac prog 115 #[(.agg p_0),(.int .u8 vm_1)] F R:=Rx.sxC (args:=[(.agg p_0),(.int .u8 vm_1)]) (.T .N (.T .N (.T .N (.T .N (.J false [] .N .N))))) (by kernel_rfl) h
def yQ (R:VR) (F:PH):Prop:=
 R (.bool false) F
def yR (N1:Int→PH→Prop) (p_1:Int) (b2:Nat) (i_5:Int) (R:VR) (F:PH):Prop:=
 N1 (IntKind.i64.wrap (i_5+1)) F
def tE (N1 N2:Int→PH→Prop) (p_1:Int) (b2:Nat) (i_5:Int) (R:VR) (k_6:Int) (F:PH):Prop:=
 Ls F (Am b2 7) fun v_16=>
 Ix v_16 i_5 fun a18_=>
 Ls F (Addr.add a18_ (Int.toNat i_5*4)) fun v_20=>
 (Bc (k_6<(v_20.len:Int)) (
  Ls F (Am b2 7) fun v_26=>
  Ix v_26 i_5 fun a28_=>
  Ls F (Addr.add a28_ (Int.toNat i_5*4)) fun v_30=>
  Ix v_30 k_6 fun a32_=>
  Li F (Addr.add a32_ (Int.toNat k_6*1)) fun v_33=>
  (Bc (v_33=p_1) (
   R (.bool true) F) (
   N2 (IntKind.i64.wrap (k_6+1)) F))) (
  yR N1 p_1 b2 i_5 R F))
def tF (N1:Int→PH→Prop) (p_1:Int) (b2:Nat) (R:VR) (i_5:Int) (F:PH):Prop:=
 Ls F (Am b2 7) fun v_9=>
 (Bc (i_5<(v_9.len:Int)) (
  (∃(I2:Nat→Int→PH→Prop) (m2:Nat),I2 m2 0 F∧∀m2 k_6 F,I2 m2 k_6 F→
   tE N1 (nx1 I2 m2) p_1 b2 i_5 R k_6 F)) (
  yQ R F))
def HR (g_0:Array Value) (p_1:Int) (R:VR) (F:PH):Prop:=
 Nb F (.cells g_0 39) fun b2 F=>
 (Lp 0 F fun N i_5 F=>
  tF N p_1 b2 R i_5 F)
theorem Od {g_0:Array Value} {p_1:Int} (h:HR g_0 p_1 R F):ac prog 116 #[(.agg g_0),(.int .i64 p_1)] F R:=Rx.sxC (args:=[(.agg g_0),(.int .i64 p_1)]) (.T .N (.J false [] (.T .N (.L [(5,.int .i64)] (.T .N (.J false [] (.T .N (.L [(6,.int .i64)] .N)) .N)))) .N)) (by kernel_rfl) h
def nE (b2 b3:Nat) (v_100:Bool) (R:VR) (F:PH):Prop:=
 (Bb (v_100) (
  Li F (Am b3 4) fun v_104=>
  (Bc (0≤v_104) (
   Li F (Am b3 4) fun v_108=>
   Ls F (Am b2 4) fun v_110=>
   (Bc (v_108<(v_110.len:Int)) (
    Lr F 9 (Am b2 0) fun v_115=>
    Ls F (Am b3 6) fun v_117=>
    Cbo 177 #[(.agg v_115),(Sl.v v_117),(.bool false)] F fun v_118 F=>
    R (.bool v_118) F) (
    R (.bool false) F))) (
   R (.bool false) F))) (
  Li F (Am b3 5) fun v_121=>
  (Bc (v_121<0) (
   R (.bool false) F) (
   Li F (Am b3 5) fun v_125=>
   Ls F (Am b2 3) fun v_127=>
   (Bc ((v_127.len:Int)≤v_125) (
    R (.bool false) F) (
    Lr F 9 (Am b2 0) fun v_132=>
    Ls F (Am b3 6) fun v_134=>
    Cbo 177 #[(.agg v_132),(Sl.v v_134),(.bool true)] F fun v_135 F=>
    (Bb ((!v_135)) (
     R (.bool false) F) (
     Ls F (Am b2 3) fun v_139=>
     Li F (Am b3 5) fun v_141=>
     Ix v_139 v_141 fun a142_=>
     Lr F 7 (Addr.add a142_ (Int.toNat v_141*7)) fun v_143=>
     Nb F (.cells zT 79) fun b6 F=>
     aA F (Am b6 0) 7 v_143 fun F=>
     Li F (Am b6 1) fun v_145=>
     (Bc (v_145=0) (
      Lx F (Am b6 2) fun v_149=>
      R (.bool (v_149.toList==(ByteArray.mk #[]).toList)) F) (
      R (.bool false) F))))))))))
def nF (b2 b3:Nat) (v_30:Int) (v_31:Bool) (R:VR) (F:PH):Prop:=
 (Bb (v_31) (
  Li F (Am b3 1) fun v_35=>
  (Bc (v_35<0) (
   R (.bool false) F) (
   Li F (Am b3 1) fun v_39=>
   Ls F (Am b2 5) fun v_41=>
   (Bc ((v_41.len:Int)≤v_39) (
    R (.bool false) F) (
    Li F (Am b3 3) fun v_47=>
    (Bc (v_47<0) (
     R (.bool false) F) (
     Li F (Am b3 3) fun v_52=>
     Ls F (Am b2 5) fun v_54=>
     (Bc ((v_54.len:Int)≤v_52) (
      R (.bool false) F) (
      Ls F (Am b2 5) fun v_59=>
      Li F (Am b3 1) fun v_61=>
      Ix v_59 v_61 fun a62_=>
      Ls F (Addr.add (Addr.add a62_ (Int.toNat v_61*13)) 2) fun v_64=>
      Li F (Am b3 2) fun v_66=>
      (Bc (0≤v_66) (
       Li F (Am b3 2) fun v_70=>
       (Bc (v_70<(v_64.len:Int)) (
        Li F (Am b3 2) fun v_78=>
        Ix v_64 v_78 fun a79_=>
        Lb F (Addr.add a79_ (Int.toNat v_78*2)) fun v_81=>
        (Bb ((!v_81)) (
         Li F (Am b3 2) fun v_87=>
         Ix v_64 v_87 fun a88_=>
         Li F (Addr.add (Addr.add a88_ (Int.toNat v_87*2)) 1) fun v_90=>
         Ls F (Am b2 5) fun v_92=>
         Li F (Am b3 3) fun v_94=>
         Ix v_92 v_94 fun a95_=>
         Li F (Addr.add (Addr.add a95_ (Int.toNat v_94*13)) 1) fun v_97=>
         R (.bool (decide (v_90=v_97))) F) (
         R (.bool false) F))) (
        R (.bool false) F))) (
       R (.bool false) F))))))))))) (
  (Bc (v_30=3) (
   nE b2 b3 (decide (v_30=3)) R F) (
   nE b2 b3 (decide (v_30=4)) R F))))
def HS (g_0 f_1:Array Value) (R:VR) (F:PH):Prop:=
 Nb F (.cells g_0 39) fun b2 F=>
 Nb F (.cells f_1 74) fun b3 F=>
 Li F (Am b3 0) fun v_8=>
 (Bc (v_8<1) (
  R (.bool false) F) (
  Li F (Am b3 0) fun v_12=>
  (Bc (5<v_12) (
   R (.bool false) F) (
   Lr F 2 (Am b3 7) fun v_17=>
   Ls F (Am b2 0) fun v_19=>
   Cbo 175 #[(.agg v_17),(.int .i64 (v_19.len:Int))] F fun v_21 F=>
   (Bb ((!v_21)) (
    R (.bool false) F) (
    Lr F 9 (Am b3 0) fun v_25=>
    Cbo 176 #[(.agg v_25)] F fun v_26 F=>
    (Bb ((!v_26)) (
     R (.bool false) F) (
     Li F (Am b3 0) fun v_30=>
     (Bc (v_30=1) (
      nF b2 b3 v_30 (decide (v_30=1)) R F) (
      nF b2 b3 v_30 (decide (v_30=2)) R F))))))))))
theorem Oe {g_0:Array Value} {f_1:Array Value} (h:HS g_0 f_1 R F):ac prog 117 #[(.agg g_0),(.agg f_1)] F R:=Rx.sxC (args:=[(.agg g_0),(.agg f_1)]) (.T .N (.T .N (.T (.T .N (.J false [(31,.bool)] .N (.T .N (.J false [(100,.bool)] .N .N)))) .N))) (by kernel_rfl) h
def HT (lo_0 hi_1:Int) (R:VR) (F:PH):Prop:=
 Nb F (.cells (#[.int .i64 0,.int .i64 0,.int .i64 0,.int .i64 0,.int .i64 0]) 97) fun b4 F=>
 aA F (Am b4 0) 5 (#[(.int .i64 1),(.int .i64 lo_0),(.int .i64 hi_1),.int .i64 0,.int .i64 0]:Array Value) fun F=>
 Rr 5 (Am b4 0) R F
theorem Of {lo_0:Int} {hi_1:Int} (h:HT lo_0 hi_1 R F):ac prog 172 #[(.int .i64 lo_0),(.int .i64 hi_1)] F R:=Rx.sxC (args:=[(.int .i64 lo_0),(.int .i64 hi_1)]) .N (by kernel_rfl) h
def HU (kind_0 a_1 b_2:Int) (R:VR) (F:PH):Prop:=
 Nb F (.cells (#[.int .i64 0,.int .i64 0,.int .i64 0,.int .i64 0,.int .i64 0]) 97) fun b6 F=>
 aA F (Am b6 0) 5 (#[(.int .i64 kind_0),.int .i64 0,.int .i64 0,(.int .i64 a_1),(.int .i64 b_2)]:Array Value) fun F=>
 Rr 5 (Am b6 0) R F
theorem Og {kind_0:Int} {a_1:Int} {b_2:Int} (h:HU kind_0 a_1 b_2 R F):ac prog 173 #[(.int .i64 kind_0),(.int .i64 a_1),(.int .i64 b_2)] F R:=Rx.sxC (args:=[(.int .i64 kind_0),(.int .i64 a_1),(.int .i64 b_2)]) .N (by kernel_rfl) h
def HV (p_0:Array Value) (R:VR) (F:PH):Prop:=
 Nb F (.cells p_0 67) fun b1 F=>
 Ls F (Am b1 2) fun v_4=>
 (Bc ((v_4.len:Int)≠3) (
  R (.bool false) F) (
  Li F (Am b1 6) fun v_9=>
  (Bc (v_9≠0) (
   R (.bool false) F) (
   Ls F (Am b1 7) fun v_14=>
   (Bc ((0:Int)<(v_14.len:Int)) (
    R (.bool false) F) (
    Lr F 5 (Am b1 8) fun v_20=>
    ∃v_22,(∀F,rdo prog (Op.equal 65 (.agg v_20) (.agg (#[.bool false,.int .i64 0,.int .i64 0,.int .i64 0,.int .i64 0]:Array Value))) F v_22)∧
    (Bb ((!v_22)) (
     R (.bool false) F) (
     Ls F (Am b1 2) fun v_25=>
     Ix v_25 0 fun a26_=>
     Lb F (Addr.add a26_ (Int.toNat 0*2)) fun v_28=>
     (Bb (v_28) (
      Ls F (Am b1 2) fun v_31=>
      Ix v_31 2 fun a32_=>
      Lb F (Addr.add a32_ (Int.toNat 2*2)) fun v_34=>
      (Bb (v_34) (
       Ls F (Am b1 2) fun v_38=>
       Ix v_38 1 fun a39_=>
       Lb F (Addr.add a39_ (Int.toNat 1*2)) fun v_41=>
       (Bb ((!v_41)) (
        Ls F (Am b1 2) fun v_46=>
        Ix v_46 1 fun a47_=>
        ∃v_49,F.cell (Addr.add (Addr.add a47_ (Int.toNat 1*2)) 1)=some (.int .i64 v_49)∧
        Li F (Am b1 1) fun v_51=>
        R (.bool (decide (v_49=v_51))) F) (
        R (.bool false) F))) (
       R (.bool false) F))) (
      R (.bool false) F))))))))))
theorem Oh {p_0:Array Value} (h:HV p_0 R F):ac prog 174 #[(.agg p_0)] F R:=Rx.sxC (args:=[(.agg p_0)]) .N (by kernel_rfl) h
def yS (R:VR) (F:PH):Prop:=
 R (.bool true) F
def tG (N1:Int→PH→Prop) (n_1:Int) (b2:Nat) (R:VR) (i_5:Int) (F:PH):Prop:=
 Ls F (Am b2 0) fun v_11=>
 (Bc (i_5<(v_11.len:Int)) (
  Ls F (Am b2 0) fun v_17=>
  Ix v_17 i_5 fun a19_=>
  Li F (Addr.add a19_ (Int.toNat i_5*3)) fun v_21=>
  (Bc (n_1≤v_21) (
   R (.bool false) F) (
   N1 (IntKind.i64.wrap (i_5+1)) F))) (
  yS R F))
def HW (d_0:Array Value) (n_1:Int) (R:VR) (F:PH):Prop:=
 Nb F (.cells d_0 33) fun b2 F=>
 Lr F 2 (Am b2 0) fun v_6=>
 Ci 216 #[(.agg v_6)] F fun v_7 F=>
 (Bc (v_7≠0) (
  R (.bool false) F) (
  (Lp 0 F fun N i_5 F=>
   tG N n_1 b2 R i_5 F)))
theorem Oi {d_0:Array Value} {n_1:Int} (h:HW d_0 n_1 R F):ac prog 175 #[(.agg d_0),(.int .i64 n_1)] F R:=Rx.sxC (args:=[(.agg d_0),(.int .i64 n_1)]) (.T .N (.T .N (.J false [] (.T .N (.L [(5,.int .i64)] .N)) .N))) (by kernel_rfl) h
def nG (b1:Nat) (beside_4:Bool) (R:VR) (F:PH):Prop:=
 (Bb (beside_4) (
  Li F (Am b1 0) fun v_55=>
  (Bc (v_55=5) (
   R (.bool true) F) (
   Li F (Am b1 5) fun v_59=>
   R (.bool (decide (v_59=0))) F))) (
  Li F (Am b1 4) fun v_50=>
  (Bc (v_50=0) (
   Li F (Am b1 0) fun v_55_1=>
   (Bc (v_55_1=5) (
    R (.bool true) F) (
    Li F (Am b1 5) fun v_59_1=>
    R (.bool (decide (v_59_1=0))) F))) (
   R (.bool false) F))))
def iW (b1:Nat) (R:VR) (F:PH):Prop:=
 Li F (Am b1 0) fun v_40=>
 (Bc (v_40=3) (
  nG b1 true R F) (
  Li F (Am b1 0) fun v_44=>
  nG b1 (decide (v_44=4)) R F))
def nH (b1:Nat) (pair_3:Bool) (R:VR) (F:PH):Prop:=
 (Bb ((!pair_3)) (
  Li F (Am b1 1) fun v_17=>
  (Bc (v_17≠0) (
   R (.bool false) F) (
   Li F (Am b1 2) fun v_21=>
   (Bc (v_21≠0) (
    R (.bool false) F) (
    Li F (Am b1 3) fun v_26=>
    (Bc (v_26≠0) (
     R (.bool false) F) (
     (Bb (pair_3) (
      Ls F (Am b1 6) fun v_34=>
      (Bc ((0:Int)<(v_34.len:Int)) (
       R (.bool false) F) (
       iW b1 R F))) (
      iW b1 R F))))))))) (
  (Bb (pair_3) (
   Ls F (Am b1 6) fun v_34_1=>
   (Bc ((0:Int)<(v_34_1.len:Int)) (
    R (.bool false) F) (
    iW b1 R F))) (
   iW b1 R F))))
def HX (f_0:Array Value) (R:VR) (F:PH):Prop:=
 Nb F (.cells f_0 74) fun b1 F=>
 Li F (Am b1 0) fun v_6=>
 (Bc (v_6=1) (
  nH b1 true R F) (
  Li F (Am b1 0) fun v_10=>
  nH b1 (decide (v_10=2)) R F))
theorem Oj {f_0:Array Value} (h:HX f_0 R F):ac prog 176 #[(.agg f_0)] F R:=Rx.sxC (args:=[(.agg f_0)]) (.T .N (.J false [(3,.bool)] .N (.J false [] .N (.J false [(4,.bool)] .N .N)))) (by kernel_rfl) h
def yT (l_1:Sl) (R:VR) (F:PH):Prop:=
 R (.bool (decide ((0:Int)<(l_1.len:Int)))) F
def nI (N1:Int→PH→Prop) (l_1:Sl) (literals_2:Bool) (b3:Nat) (i_7:Int) (R:VR) (F:PH):Prop:=
 N1 (IntKind.i64.wrap (i_7+1)) F
def nJ (N1:Int→PH→Prop) (l_1:Sl) (literals_2:Bool) (b3:Nat) (i_7:Int) (R:VR) (F:PH):Prop:=
 Ls F (Am b3 3) fun v_47=>
 Ix l_1 i_7 fun a50_=>
 Li F (Addr.add a50_ (Int.toNat i_7*1)) fun v_51=>
 Ix v_47 v_51 fun a52_=>
 Lr F 7 (Addr.add a52_ (Int.toNat v_51*7)) fun v_53=>
 Nb F (.cells zT 79) fun b8 F=>
 aA F (Am b8 0) 7 v_53 fun F=>
 (Bb (literals_2) (
  Lx F (Am b8 2) fun v_57=>
  (Bb ((v_57.toList==(ByteArray.mk #[]).toList)) (
   R (.bool false) F) (
   nI N1 l_1 literals_2 b3 i_7 R F))) (
  Li F (Am b8 1) fun v_65=>
  (Bc (v_65≠0) (
   R (.bool false) F) (
   nI N1 l_1 literals_2 b3 i_7 R F))))
def tH (N1:Int→PH→Prop) (l_1:Sl) (literals_2:Bool) (b3:Nat) (R:VR) (i_7:Int) (F:PH):Prop:=
 (Bc (i_7<(l_1.len:Int)) (
  Ix l_1 i_7 fun a17_=>
  Li F (Addr.add a17_ (Int.toNat i_7*1)) fun v_18=>
  (Bc (v_18<0) (
   R (.bool false) F) (
   Ix l_1 i_7 fun a23_=>
   Li F (Addr.add a23_ (Int.toNat i_7*1)) fun v_24=>
   Ls F (Am b3 3) fun v_26=>
   (Bc ((v_26.len:Int)≤v_24) (
    R (.bool false) F) (
    (Bc (0<i_7) (
     Ix l_1 i_7 fun a36_=>
     Li F (Addr.add a36_ (Int.toNat i_7*1)) fun v_37=>
     Ix l_1 (IntKind.i64.wrap (i_7 - 1)) fun a41_=>
     ∃v_42,F.cell (Addr.add a41_ (Int.toNat (IntKind.i64.wrap (i_7 - 1))*1))=some (.int .i64 v_42)∧
     (Bc (v_37≤v_42) (
      R (.bool false) F) (
      nJ N1 l_1 literals_2 b3 i_7 R F))) (
     nJ N1 l_1 literals_2 b3 i_7 R F))))))) (
  yT l_1 R F))
def HY (g_0:Array Value) (l_1:Sl) (literals_2:Bool) (R:VR) (F:PH):Prop:=
 Nb F (.cells g_0 39) fun b3 F=>
 (Lp 0 F fun N i_7 F=>
  tH N l_1 literals_2 b3 R i_7 F)
theorem Ok {g_0:Array Value} {l_1:Sl} {literals_2:Bool} (h:HY g_0 l_1 literals_2 R F):ac prog 177 #[(.agg g_0),(Sl.v l_1),(.bool literals_2)] F R:=Rx.sxC (args:=[(.agg g_0),(Sl.v l_1),(.bool literals_2)]) (.T .N (.J false [] (.T .N (.L [(7,.int .i64)] (.T .N (.J false [] (.J false [] .N .N) .N)))) .N)) (by kernel_rfl) h
end Go.Proofs.YtenpmjhnhepfdaaGreatDoor

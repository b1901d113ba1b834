/-
  The trees of tests of the functions that InstLays reaches: what is left.
-/
import Derived.Test.YtambhhochajgnaaXInstLaysPart0
import Derived.Test.YtambhhochajgnaaXInstLaysPart1
import Derived.Test.YtambhhochajgnaaXInstLaysPart2
import Derived.Test.YtambhhochajgnaaXInstLaysPart3
import Derived.Test.YtambhhochajgnaaXInstLaysPart4
import Derived.Test.YtambhhochajgnaaXInstLaysPart5
import Derived.Test.YtambhhochajgnaaXInstLaysPart6
import Derived.Test.YtambhhochajgnaaXInstLaysPart7
import Derived.Test.YtambhhochajgnaaXInstLaysPart8
import Derived.Test.YtambhhochajgnaaXInstLaysPart9
import Derived.Test.YtambhhochajgnaaXInstLaysPart10
import Derived.Test.YtambhhochajgnaaXInstLaysPart11
import Derived.Test.YtambhhochajgnaaXInstLaysPart12
import Derived.Test.YtambhhochajgnaaXInstLaysPart13
import Derived.Test.YtambhhochajgnaaXInstLaysPart14
import Derived.Test.YtambhhochajgnaaXInstLaysPart15
import Derived.Test.YtambhhochajgnaaXInstLaysPart16
import Derived.Test.YtambhhochajgnaaXInstLaysPart17
import Derived.Test.YtambhhochajgnaaXInstLaysPart18
import Derived.Test.YtambhhochajgnaaXInstLaysPart19
import Derived.Test.YtambhhochajgnaaXInstLaysPart20
namespace Go.Proofs.Ytambhhochajgnaa.XInstLays
open Go.Proofs.Ytambhhochajgnaa.Vx
set_option maxRecDepth 100000
theorem x7_9 : (sub (sub (sub (sub (sub (sub X7 0) 0) 0) 0) 1) 1) = c7_9 := (put_hd (sub (sub (sub (sub (sub (sub X7 0) 0) 0) 0) 1) 1)).trans (congr (congr (congrArg put x7_9n) x7_10) x7_11)
theorem x7_7 : (sub (sub (sub (sub (sub X7 0) 0) 0) 0) 1) = c7_7 := (put_hd (sub (sub (sub (sub (sub X7 0) 0) 0) 0) 1)).trans (congr (congr (congrArg put x7_7n) x7_8) x7_9)
theorem x7_5 : (sub (sub (sub (sub X7 0) 0) 0) 0) = c7_5 := (put_hd (sub (sub (sub (sub X7 0) 0) 0) 0)).trans (congr (congr (congrArg put x7_5n) x7_6) x7_7)
theorem x7_4 : (sub (sub (sub X7 0) 0) 0) = c7_4 := (put_hd (sub (sub (sub X7 0) 0) 0)).trans (congrFun (congr (congrArg put x7_4n) x7_5) _)
theorem x7_14 : (sub (sub (sub (sub (sub X7 0) 0) 1) 0) 0) = c7_14 := (put_hd (sub (sub (sub (sub (sub X7 0) 0) 1) 0) 0)).trans (congr (congr (congrArg put x7_14n) x7_15) x7_16)
theorem x7_13 : (sub (sub (sub (sub X7 0) 0) 1) 0) = c7_13 := (put_hd (sub (sub (sub (sub X7 0) 0) 1) 0)).trans (congrFun (congr (congrArg put x7_13n) x7_14) _)
theorem x7_19 : (sub (sub (sub (sub (sub (sub X7 0) 0) 1) 1) 0) 0) = c7_19 := (put_hd (sub (sub (sub (sub (sub (sub X7 0) 0) 1) 1) 0) 0)).trans (congr (congr (congrArg put x7_19n) x7_20) x7_21)
theorem x7_18 : (sub (sub (sub (sub (sub X7 0) 0) 1) 1) 0) = c7_18 := (put_hd (sub (sub (sub (sub (sub X7 0) 0) 1) 1) 0)).trans (congrFun (congr (congrArg put x7_18n) x7_19) _)
theorem x7_17 : (sub (sub (sub (sub X7 0) 0) 1) 1) = c7_17 := (put_hd (sub (sub (sub (sub X7 0) 0) 1) 1)).trans (congr (congr (congrArg put x7_17n) x7_18) x7_22)
theorem x7_12 : (sub (sub (sub X7 0) 0) 1) = c7_12 := (put_hd (sub (sub (sub X7 0) 0) 1)).trans (congr (congr (congrArg put x7_12n) x7_13) x7_17)
theorem x7_3 : (sub (sub X7 0) 0) = c7_3 := (put_hd (sub (sub X7 0) 0)).trans (congr (congr (congrArg put x7_3n) x7_4) x7_12)
theorem x7_2 : (sub X7 0) = c7_2 := (put_hd (sub X7 0)).trans (congrFun (congr (congrArg put x7_2n) x7_3) _)
theorem x7_31 : (sub (sub (sub (sub (sub (sub (sub X7 1) 0) 0) 0) 0) 1) 1) = c7_31 := (put_hd (sub (sub (sub (sub (sub (sub (sub X7 1) 0) 0) 0) 0) 1) 1)).trans (congr (congr (congrArg put x7_31n) x7_32) x7_33)
theorem x7_29 : (sub (sub (sub (sub (sub (sub X7 1) 0) 0) 0) 0) 1) = c7_29 := (put_hd (sub (sub (sub (sub (sub (sub X7 1) 0) 0) 0) 0) 1)).trans (congr (congr (congrArg put x7_29n) x7_30) x7_31)
theorem x7_27 : (sub (sub (sub (sub (sub X7 1) 0) 0) 0) 0) = c7_27 := (put_hd (sub (sub (sub (sub (sub X7 1) 0) 0) 0) 0)).trans (congr (congr (congrArg put x7_27n) x7_28) x7_29)
theorem x7_26 : (sub (sub (sub (sub X7 1) 0) 0) 0) = c7_26 := (put_hd (sub (sub (sub (sub X7 1) 0) 0) 0)).trans (congrFun (congr (congrArg put x7_26n) x7_27) _)
theorem x7_36 : (sub (sub (sub (sub (sub (sub X7 1) 0) 0) 1) 0) 0) = c7_36 := (put_hd (sub (sub (sub (sub (sub (sub X7 1) 0) 0) 1) 0) 0)).trans (congr (congr (congrArg put x7_36n) x7_37) x7_38)
theorem x7_35 : (sub (sub (sub (sub (sub X7 1) 0) 0) 1) 0) = c7_35 := (put_hd (sub (sub (sub (sub (sub X7 1) 0) 0) 1) 0)).trans (congrFun (congr (congrArg put x7_35n) x7_36) _)
theorem x7_41 : (sub (sub (sub (sub (sub (sub (sub X7 1) 0) 0) 1) 1) 0) 0) = c7_41 := (put_hd (sub (sub (sub (sub (sub (sub (sub X7 1) 0) 0) 1) 1) 0) 0)).trans (congr (congr (congrArg put x7_41n) x7_42) x7_43)
theorem x7_40 : (sub (sub (sub (sub (sub (sub X7 1) 0) 0) 1) 1) 0) = c7_40 := (put_hd (sub (sub (sub (sub (sub (sub X7 1) 0) 0) 1) 1) 0)).trans (congrFun (congr (congrArg put x7_40n) x7_41) _)
theorem x7_39 : (sub (sub (sub (sub (sub X7 1) 0) 0) 1) 1) = c7_39 := (put_hd (sub (sub (sub (sub (sub X7 1) 0) 0) 1) 1)).trans (congr (congr (congrArg put x7_39n) x7_40) x7_44)
theorem x7_34 : (sub (sub (sub (sub X7 1) 0) 0) 1) = c7_34 := (put_hd (sub (sub (sub (sub X7 1) 0) 0) 1)).trans (congr (congr (congrArg put x7_34n) x7_35) x7_39)
theorem x7_25 : (sub (sub (sub X7 1) 0) 0) = c7_25 := (put_hd (sub (sub (sub X7 1) 0) 0)).trans (congr (congr (congrArg put x7_25n) x7_26) x7_34)
theorem x7_24 : (sub (sub X7 1) 0) = c7_24 := (put_hd (sub (sub X7 1) 0)).trans (congrFun (congr (congrArg put x7_24n) x7_25) _)
theorem x7_49 : (sub (sub (sub (sub (sub (sub X7 1) 1) 0) 0) 0) 0) = c7_49 := (put_hd (sub (sub (sub (sub (sub (sub X7 1) 1) 0) 0) 0) 0)).trans (congr (congr (congrArg put x7_49n) x7_50) x7_51)
theorem x7_48 : (sub (sub (sub (sub (sub X7 1) 1) 0) 0) 0) = c7_48 := (put_hd (sub (sub (sub (sub (sub X7 1) 1) 0) 0) 0)).trans (congrFun (congr (congrArg put x7_48n) x7_49) _)
theorem x7_54 : (sub (sub (sub (sub (sub (sub (sub X7 1) 1) 0) 0) 1) 0) 0) = c7_54 := (put_hd (sub (sub (sub (sub (sub (sub (sub X7 1) 1) 0) 0) 1) 0) 0)).trans (congr (congr (congrArg put x7_54n) x7_55) x7_56)
theorem x7_53 : (sub (sub (sub (sub (sub (sub X7 1) 1) 0) 0) 1) 0) = c7_53 := (put_hd (sub (sub (sub (sub (sub (sub X7 1) 1) 0) 0) 1) 0)).trans (congrFun (congr (congrArg put x7_53n) x7_54) _)
theorem x7_57 : (sub (sub (sub (sub (sub (sub X7 1) 1) 0) 0) 1) 1) = c7_57 := (put_hd (sub (sub (sub (sub (sub (sub X7 1) 1) 0) 0) 1) 1)).trans (congr (congr (congrArg put x7_57n) x7_58) x7_59)
theorem x7_52 : (sub (sub (sub (sub (sub X7 1) 1) 0) 0) 1) = c7_52 := (put_hd (sub (sub (sub (sub (sub X7 1) 1) 0) 0) 1)).trans (congr (congr (congrArg put x7_52n) x7_53) x7_57)
theorem x7_47 : (sub (sub (sub (sub X7 1) 1) 0) 0) = c7_47 := (put_hd (sub (sub (sub (sub X7 1) 1) 0) 0)).trans (congr (congr (congrArg put x7_47n) x7_48) x7_52)
theorem x7_46 : (sub (sub (sub X7 1) 1) 0) = c7_46 := (put_hd (sub (sub (sub X7 1) 1) 0)).trans (congrFun (congr (congrArg put x7_46n) x7_47) _)
theorem x7_64 : (sub (sub (sub (sub (sub (sub (sub X7 1) 1) 1) 0) 0) 0) 0) = c7_64 := (put_hd (sub (sub (sub (sub (sub (sub (sub X7 1) 1) 1) 0) 0) 0) 0)).trans (congr (congr (congrArg put x7_64n) x7_65) x7_66)
theorem x7_63 : (sub (sub (sub (sub (sub (sub X7 1) 1) 1) 0) 0) 0) = c7_63 := (put_hd (sub (sub (sub (sub (sub (sub X7 1) 1) 1) 0) 0) 0)).trans (congrFun (congr (congrArg put x7_63n) x7_64) _)
theorem x7_69 : (sub (sub (sub (sub (sub (sub (sub (sub X7 1) 1) 1) 0) 0) 1) 0) 0) = c7_69 := (put_hd (sub (sub (sub (sub (sub (sub (sub (sub X7 1) 1) 1) 0) 0) 1) 0) 0)).trans (congr (congr (congrArg put x7_69n) x7_70) x7_71)
theorem x7_68 : (sub (sub (sub (sub (sub (sub (sub X7 1) 1) 1) 0) 0) 1) 0) = c7_68 := (put_hd (sub (sub (sub (sub (sub (sub (sub X7 1) 1) 1) 0) 0) 1) 0)).trans (congrFun (congr (congrArg put x7_68n) x7_69) _)
theorem x7_72 : (sub (sub (sub (sub (sub (sub (sub X7 1) 1) 1) 0) 0) 1) 1) = c7_72 := (put_hd (sub (sub (sub (sub (sub (sub (sub X7 1) 1) 1) 0) 0) 1) 1)).trans (congr (congr (congrArg put x7_72n) x7_73) x7_74)
theorem x7_67 : (sub (sub (sub (sub (sub (sub X7 1) 1) 1) 0) 0) 1) = c7_67 := (put_hd (sub (sub (sub (sub (sub (sub X7 1) 1) 1) 0) 0) 1)).trans (congr (congr (congrArg put x7_67n) x7_68) x7_72)
theorem x7_62 : (sub (sub (sub (sub (sub X7 1) 1) 1) 0) 0) = c7_62 := (put_hd (sub (sub (sub (sub (sub X7 1) 1) 1) 0) 0)).trans (congr (congr (congrArg put x7_62n) x7_63) x7_67)
theorem x7_61 : (sub (sub (sub (sub X7 1) 1) 1) 0) = c7_61 := (put_hd (sub (sub (sub (sub X7 1) 1) 1) 0)).trans (congrFun (congr (congrArg put x7_61n) x7_62) _)
theorem x7_80 : (sub (sub (sub (sub (sub (sub (sub X7 1) 1) 1) 1) 0) 1) 1) = c7_80 := (put_hd (sub (sub (sub (sub (sub (sub (sub X7 1) 1) 1) 1) 0) 1) 1)).trans (congr (congr (congrArg put x7_80n) x7_81) x7_82)
theorem x7_78 : (sub (sub (sub (sub (sub (sub X7 1) 1) 1) 1) 0) 1) = c7_78 := (put_hd (sub (sub (sub (sub (sub (sub X7 1) 1) 1) 1) 0) 1)).trans (congr (congr (congrArg put x7_78n) x7_79) x7_80)
theorem x7_76 : (sub (sub (sub (sub (sub X7 1) 1) 1) 1) 0) = c7_76 := (put_hd (sub (sub (sub (sub (sub X7 1) 1) 1) 1) 0)).trans (congr (congr (congrArg put x7_76n) x7_77) x7_78)
theorem x7_75 : (sub (sub (sub (sub X7 1) 1) 1) 1) = c7_75 := (put_hd (sub (sub (sub (sub X7 1) 1) 1) 1)).trans (congrFun (congr (congrArg put x7_75n) x7_76) _)
theorem x7_60 : (sub (sub (sub X7 1) 1) 1) = c7_60 := (put_hd (sub (sub (sub X7 1) 1) 1)).trans (congr (congr (congrArg put x7_60n) x7_61) x7_75)
theorem x7_45 : (sub (sub X7 1) 1) = c7_45 := (put_hd (sub (sub X7 1) 1)).trans (congr (congr (congrArg put x7_45n) x7_46) x7_60)
theorem x7_23 : (sub X7 1) = c7_23 := (put_hd (sub X7 1)).trans (congr (congr (congrArg put x7_23n) x7_24) x7_45)
theorem x7_1 : X7 = c7_1 := (put_hd X7).trans (congr (congr (congrArg put x7_1n) x7_2) x7_23)
theorem x7 : sxFn Try.prog (Tab.sig a7) (inlN Try.prog (Tab.sig a7) (hintOf hs) 6) H7 Try.f7 (Try.f7.body.getD .skip) s7 = t7 := x7_1
theorem e7_16 : Tab.fn a7 16 = F16 := by kernel_rfl
def F7 : Vx.Fn := Vx.Fd t7 (Tab.fn a7)
theorem g7 : Vx.Good Try.prog True_ 7 s7 F7 := good_of_tree hm hI (gcons g16 Tab.Good.nil) H7 hs 6 Try.func7 rfl (by kernel_rfl) x7
/-! trammel/inst.within -/
def s17 : Sig := ⟨[(.v (.i .u64)), (.v (.i .u64)), (.v (.i .i64))], [(.v .b)]⟩
def H17 : Hint := ⟨[], [], [], 12, false⟩
def t17 : Vx.T := (.lb (.an (.cm .leq (.iv 0) (.cv .u64 (.iv 2))) (.cm .leq (.iv 1) (.ar .sub .u64 (.cv .u64 (.iv 2)) (.iv 0)))) (.ret [] [(.bv 0)] []))
def a17 : Tab := []
theorem x17 : sxFn Try.prog (Tab.sig a17) (inlN Try.prog (Tab.sig a17) (hintOf hs) 6) H17 Try.f17 (Try.f17.body.getD .skip) s17 = t17 := by kernel_rfl
def F17 : Vx.Fn := Vx.Fd t17 (Tab.fn a17)
theorem g17 : Vx.Good Try.prog True_ 17 s17 F17 := good_of_tree hm hI Tab.Good.nil H17 hs 6 Try.func17 rfl (by kernel_rfl) x17
/-! trammel/inst.Lay -/
def s8 : Sig := ⟨[(.agg [(.lf [(.i .u8)]), (.i .i64), (.lf [(.i .i64)]), (.lf [(.i .u64)]), (.lf [.b]), (.lf [.b])]), (.v (.lf [(.i .i64)])), (.v (.i .u64)), (.v (.i .u64)), (.v (.i .u64))], [(.agg [(.lo 5 [(.i .u8)]), (.i .i64), (.lo 3 [(.i .i64)]), (.lo 28 [(.i .u64)]), (.lo 4 [.b]), (.lo 4 [.b])]), (.v .b)]⟩
def H8 : Hint := ⟨[], [], [], 12, false⟩
def t8 : Vx.T := (.call 17 [(.iv 2), (.iv 3), (.ln 5)] [] [] 0 1 0 (.ite (.bv 0) (.call 17 [(.iv 1), (.iv 3), (.ln 1)] [] [] 0 1 0 (.ite (.nt (.bv 1)) (.ret [(.n 0)] [(.t false)] [.nil, .nil, .nil, .nil, .nil]) (.call 18 [(.iv 0)] [] [(.v 0), (.v 1), (.v 2), (.v 3), (.v 4)] 1 0 5 (.both (.rq (.an (.cm .leq (.n 0) (.iv 1)) (.an (.cm .leq (.iv 1) (.ln 7)) (.cm .leq (.ln 7) (.ln 7)))) (.rq (.an (.cm .leq (.n 0) (.iv 2)) (.an (.cm .leq (.iv 2) (.ar .add .u64 (.iv 2) (.iv 3))) (.cm .leq (.ar .add .u64 (.iv 2) (.iv 3)) (.ln 5)))) (.lst [(.cut (.v 5) (.iv 2) (.ar .add .u64 (.iv 2) (.iv 3)))] (.rq (.an (.cm .leq (.n 0) (.iv 1)) (.cm .leq (.iv 1) (.ln 7))) (.lst [(.cp 7 (.iv 1) 11)] (.ret [(.iv 4)] [(.t true)] [(.v 6), (.v 12), (.v 8), (.v 9), (.v 10)])))))) (.rq (.an (.cm .leq (.n 0) (.iv 2)) (.an (.cm .leq (.iv 2) (.ar .add .u64 (.iv 2) (.iv 3))) (.cm .leq (.ar .add .u64 (.iv 2) (.iv 3)) (.ln 5)))) (.lst [(.cut (.v 5) (.iv 2) (.ar .add .u64 (.iv 2) (.iv 3)))] (.rq (.an (.cm .leq (.n 0) (.iv 1)) (.an (.cm .leq (.iv 1) (.ln 7)) (.cm .leq (.ln 7) (.ln 7)))) (.rq (.an (.cm .leq (.n 0) (.iv 1)) (.cm .leq (.iv 1) (.ln 7))) (.lst [(.cp 7 (.iv 1) 11)] (.ret [(.iv 4)] [(.t true)] [(.v 6), (.v 12), (.v 8), (.v 9), (.v 10)])))))))))) (.ret [(.n 0)] [(.t false)] [.nil, .nil, .nil, .nil, .nil])))
def a8 : Tab := [⟨17, s17, F17⟩, ⟨18, s18, F18⟩]
theorem x8 : sxFn Try.prog (Tab.sig a8) (inlN Try.prog (Tab.sig a8) (hintOf hs) 6) H8 Try.f8 (Try.f8.body.getD .skip) s8 = t8 := by kernel_rfl
theorem e8_17 : Tab.fn a8 17 = F17 := by kernel_rfl
theorem e8_18 : Tab.fn a8 18 = F18 := by kernel_rfl
def F8 : Vx.Fn := Vx.Fd t8 (Tab.fn a8)
theorem g8 : Vx.Good Try.prog True_ 8 s8 F8 := good_of_tree hm hI (gcons g17 (gcons g18 Tab.Good.nil)) H8 hs 6 Try.func8 rfl (by kernel_rfl) x8
/-! trammel/trammelref13.room -/
def s19 : Sig := ⟨[(.v (.i .u64)), (.v (.i .u64)), (.v (.i .i64))], [(.v .b)]⟩
def H19 : Hint := ⟨[], [], [], 12, false⟩
def t19 : Vx.T := (.lb (.an (.cm .leq (.iv 0) (.cv .u64 (.iv 2))) (.cm .leq (.iv 1) (.cv .u64 (.iv 2)))) (.lb (.an (.bv 0) (.cm .leq (.ar .add .u64 (.iv 0) (.iv 1)) (.cv .u64 (.iv 2)))) (.ret [] [(.bv 1)] [])))
def a19 : Tab := []
theorem x19 : sxFn Try.prog (Tab.sig a19) (inlN Try.prog (Tab.sig a19) (hintOf hs) 6) H19 Try.f19 (Try.f19.body.getD .skip) s19 = t19 := by kernel_rfl
def F19 : Vx.Fn := Vx.Fd t19 (Tab.fn a19)
theorem g19 : Vx.Good Try.prog True_ 19 s19 F19 := good_of_tree hm hI Tab.Good.nil H19 hs 6 Try.func19 rfl (by kernel_rfl) x19
/-! trammel/trammelref13.Lay -/
def s9 : Sig := ⟨[(.agg [(.lf [(.i .u8)]), (.i .i64), (.lf [(.i .i64)]), (.lf [(.i .u64)]), (.lf [.b]), (.lf [.b])]), (.v (.lf [(.i .i64)])), (.v (.i .u64)), (.v (.i .u64)), (.v (.i .u64))], [(.agg [(.lf [(.i .u8)]), (.i .i64), (.lf [(.i .i64)]), (.lf [(.i .u64)]), (.lf [.b]), (.lf [.b])]), (.v .b)]⟩
def H9 : Hint := ⟨[], [(6, some ⟨[(12, false, [.lo 3 [(.i .i64)]]), (13, false, [.i .i64])], [], [], [14, 31, 32, 33, 34, 35, 36, 37, 38, 39, 40, 41, 42, 43, 44, 45, 46, 47, 48, 49, 50, 51, 52, 53, 54, 55, 56, 57, 58, 59, 60, 61, 62, 63, 64, 65, 66, 67], [], []⟩)], [], 12, false⟩
def l9_1 : Vx.T := (.ite (.cm .lss (.iv 4) (.ln 1)) (.rq (.cm .geq (.iv 4) (.n 0)) (.lb (.an (.cm .geq (.cv .u64 (.iv 4)) (.iv 1)) (.cm .lss (.cv .u64 (.iv 4)) (.ar .add .u64 (.iv 1) (.iv 3)))) (.ite (.bv 2) (.rq (.an (.cm .geq (.ar .add .u64 (.ar .sub .u64 (.cv .u64 (.iv 4)) (.iv 1)) (.iv 2)) (.n 0)) (.cm .lss (.ar .add .u64 (.ar .sub .u64 (.cv .u64 (.iv 4)) (.iv 1)) (.iv 2)) (.ln 5))) (.rq (.an (.cm .geq (.ar .add .u64 (.ar .sub .u64 (.cv .u64 (.iv 4)) (.iv 1)) (.iv 2)) (.n 0)) (.cm .lss (.ar .add .u64 (.ar .sub .u64 (.cv .u64 (.iv 4)) (.iv 1)) (.iv 2)) (.ln 5))) (.li (.ix 5 (.ar .add .u64 (.ar .sub .u64 (.cv .u64 (.iv 4)) (.iv 1)) (.iv 2)) 0) (.lst [(.els [[(.i (.iv 5))]])] (.rq (.an (.cm .leq (.ln 6) (.n 3909374676536)) (.cm .leq (.ln 7) (.n 3909374676536))) (.lst [(.ap (.v 6) (.v 7))] (.nxt [(.ar .add .i64 (.iv 4) (.n 1))] [] [(.v 8)]))))))) (.lst [(.els [[(.i (.ix 1 (.iv 4) 0))]])] (.rq (.an (.cm .leq (.ln 6) (.n 3909374676536)) (.cm .leq (.ln 7) (.n 3909374676536))) (.lst [(.ap (.v 6) (.v 7))] (.nxt [(.ar .add .i64 (.iv 4) (.n 1))] [] [(.v 8)]))))))) (.brk 2 [(.iv 4)] [] [(.v 6)]))
def k9_2 : Vx.T := (.rq (.cm .eql (.iv 4) (.n 2)) (.ret [(.iv 0)] [(.t true)] [(.v 0), (.v 6), (.v 2), (.v 3), (.v 4)]))
def t9 : Vx.T := (.call 19 [(.iv 2), (.iv 3), (.ln 5)] [] [] 0 1 0 (.ite (.bv 0) (.call 19 [(.iv 1), (.iv 3), (.ln 1)] [] [] 0 1 0 (.ite (.nt (.bv 1)) (.ret [(.n 0)] [(.t false)] [.nil, .nil, .nil, .nil, .nil]) (.lp [(.n 0)] [] [.nil] 1 0 1 l9_1 k9_2))) (.ret [(.n 0)] [(.t false)] [.nil, .nil, .nil, .nil, .nil])))
def a9 : Tab := [⟨19, s19, F19⟩]
theorem x9 : sxFn Try.prog (Tab.sig a9) (inlN Try.prog (Tab.sig a9) (hintOf hs) 6) H9 Try.f9 (Try.f9.body.getD .skip) s9 = t9 := by kernel_rfl
theorem e9_19 : Tab.fn a9 19 = F19 := by kernel_rfl
def F9 : Vx.Fn := Vx.Fd t9 (Tab.fn a9)
theorem g9 : Vx.Good Try.prog True_ 9 s9 F9 := good_of_tree hm hI (gcons g19 Tab.Good.nil) H9 hs 6 Try.func9 rfl (by kernel_rfl) x9
/-! trammel/trammelref05.SameInts -/
def s20 : Sig := ⟨[(.v (.lf [(.i .i64)])), (.v (.lf [(.i .i64)]))], [(.v .b)]⟩
def H20 : Hint := ⟨[], [(5, some ⟨[(4, false, [.b]), (5, false, [.i .i64])], [], [], [11, 12, 13, 14, 15, 16, 17, 18, 19, 20, 21, 22, 23, 24, 25], [], []⟩)], [], 12, false⟩
def l20_1 : Vx.T := (.ite (.cm .lss (.iv 0) (.ln 0)) (.rq (.cm .geq (.iv 0) (.n 0)) (.rq (.cm .lss (.iv 0) (.ln 1)) (.ite (.cm .neq (.ix 0 (.iv 0) 0) (.ix 1 (.iv 0) 0)) (.rt (.ret [] [(.t false)] [])) (.nxt [(.ar .add .i64 (.iv 0) (.n 1))] [(.bv 0)] [])))) (.brk 2 [(.iv 0)] [(.bv 0)] []))
def k20_2 : Vx.T := (.rq (.cm .eql (.iv 0) (.n 2)) (.ret [] [(.t true)] []))
def t20 : Vx.T := (.ite (.cm .neq (.ln 0) (.ln 1)) (.ret [] [(.t false)] []) (.lp [(.n 0)] [(.t false)] [] 1 1 0 l20_1 k20_2))
def a20 : Tab := []
theorem x20 : sxFn Try.prog (Tab.sig a20) (inlN Try.prog (Tab.sig a20) (hintOf hs) 6) H20 Try.f20 (Try.f20.body.getD .skip) s20 = t20 := by kernel_rfl
def F20 : Vx.Fn := Vx.Fd t20 (Tab.fn a20)
theorem g20 : Vx.Good Try.prog True_ 20 s20 F20 := good_of_tree hm hI Tab.Good.nil H20 hs 6 Try.func20 rfl (by kernel_rfl) x20
/-! trammel/trammelref13.SameNumbers -/
def s21 : Sig := ⟨[(.v (.lf [(.i .u64)])), (.v (.lf [(.i .u64)]))], [(.v .b)]⟩
def H21 : Hint := ⟨[], [(5, some ⟨[(4, false, [.b]), (5, false, [.i .i64])], [], [], [11, 12, 13, 14, 15, 16, 17, 18, 19, 20, 21, 22, 23, 24, 25], [], []⟩)], [], 12, false⟩
def l21_1 : Vx.T := (.ite (.cm .lss (.iv 0) (.ln 0)) (.rq (.cm .geq (.iv 0) (.n 0)) (.rq (.cm .lss (.iv 0) (.ln 1)) (.ite (.cm .neq (.ix 0 (.iv 0) 0) (.ix 1 (.iv 0) 0)) (.rt (.ret [] [(.t false)] [])) (.nxt [(.ar .add .i64 (.iv 0) (.n 1))] [(.bv 0)] [])))) (.brk 2 [(.iv 0)] [(.bv 0)] []))
def k21_2 : Vx.T := (.rq (.cm .eql (.iv 0) (.n 2)) (.ret [] [(.t true)] []))
def t21 : Vx.T := (.ite (.cm .neq (.ln 0) (.ln 1)) (.ret [] [(.t false)] []) (.lp [(.n 0)] [(.t false)] [] 1 1 0 l21_1 k21_2))
def a21 : Tab := []
theorem x21 : sxFn Try.prog (Tab.sig a21) (inlN Try.prog (Tab.sig a21) (hintOf hs) 6) H21 Try.f21 (Try.f21.body.getD .skip) s21 = t21 := by kernel_rfl
def F21 : Vx.Fn := Vx.Fd t21 (Tab.fn a21)
theorem g21 : Vx.Good Try.prog True_ 21 s21 F21 := good_of_tree hm hI Tab.Good.nil H21 hs 6 Try.func21 rfl (by kernel_rfl) x21
/-! trammel/trammelref13.SameBools -/
def s22 : Sig := ⟨[(.v (.lf [.b])), (.v (.lf [.b]))], [(.v .b)]⟩
def H22 : Hint := ⟨[], [(5, some ⟨[(4, false, [.b]), (5, false, [.i .i64])], [], [], [11, 12, 13, 14, 15, 16, 17, 18, 19, 20, 21, 22, 23, 24, 25], [], []⟩)], [], 12, false⟩
def l22_1 : Vx.T := (.ite (.cm .lss (.iv 0) (.ln 0)) (.rq (.cm .geq (.iv 0) (.n 0)) (.rq (.cm .lss (.iv 0) (.ln 1)) (.ite (.nt (.be (.bx 0 (.iv 0) 0) (.bx 1 (.iv 0) 0))) (.rt (.ret [] [(.t false)] [])) (.nxt [(.ar .add .i64 (.iv 0) (.n 1))] [(.bv 0)] [])))) (.brk 2 [(.iv 0)] [(.bv 0)] []))
def k22_2 : Vx.T := (.rq (.cm .eql (.iv 0) (.n 2)) (.ret [] [(.t true)] []))
def t22 : Vx.T := (.ite (.cm .neq (.ln 0) (.ln 1)) (.ret [] [(.t false)] []) (.lp [(.n 0)] [(.t false)] [] 1 1 0 l22_1 k22_2))
def a22 : Tab := []
theorem x22 : sxFn Try.prog (Tab.sig a22) (inlN Try.prog (Tab.sig a22) (hintOf hs) 6) H22 Try.f22 (Try.f22.body.getD .skip) s22 = t22 := by kernel_rfl
def F22 : Vx.Fn := Vx.Fd t22 (Tab.fn a22)
theorem g22 : Vx.Good Try.prog True_ 22 s22 F22 := good_of_tree hm hI Tab.Good.nil H22 hs 6 Try.func22 rfl (by kernel_rfl) x22
/-! trammel/trammelref13.Same -/
def s10 : Sig := ⟨[(.agg [(.lf [(.i .u8)]), (.i .i64), (.lf [(.i .i64)]), (.lf [(.i .u64)]), (.lf [.b]), (.lf [.b])]), (.agg [(.lf [(.i .u8)]), (.i .i64), (.lf [(.i .i64)]), (.lf [(.i .u64)]), (.lf [.b]), (.lf [.b])])], [(.v .b)]⟩
def H10 : Hint := ⟨[], [], [], 12, false⟩
def t10 : Vx.T := (.rq (.by_ 0) (.lst [(.v 0)] (.rq (.by_ 5) (.lst [(.v 5)] (.ite (.an (.lq 10 11) (.cm .eql (.iv 0) (.iv 1))) (.call 20 [] [] [(.v 1), (.v 6)] 0 1 0 (.ite (.bv 0) (.call 21 [] [] [(.v 2), (.v 7)] 0 1 0 (.ite (.bv 1) (.call 22 [] [] [(.v 3), (.v 8)] 0 1 0 (.ite (.bv 2) (.call 22 [] [] [(.v 4), (.v 9)] 0 1 0 (.ret [] [(.bv 3)] [])) (.ret [] [(.t false)] []))) (.ret [] [(.t false)] []))) (.ret [] [(.t false)] []))) (.ret [] [(.t false)] []))))))
def a10 : Tab := [⟨20, s20, F20⟩, ⟨21, s21, F21⟩, ⟨22, s22, F22⟩]
theorem x10 : sxFn Try.prog (Tab.sig a10) (inlN Try.prog (Tab.sig a10) (hintOf hs) 6) H10 Try.f10 (Try.f10.body.getD .skip) s10 = t10 := by kernel_rfl
theorem e10_20 : Tab.fn a10 20 = F20 := by kernel_rfl
theorem e10_21 : Tab.fn a10 21 = F21 := by kernel_rfl
theorem e10_22 : Tab.fn a10 22 = F22 := by kernel_rfl
def F10 : Vx.Fn := Vx.Fd t10 (Tab.fn a10)
theorem g10 : Vx.Good Try.prog True_ 10 s10 F10 := good_of_tree hm hI (gcons g20 (gcons g21 (gcons g22 Tab.Good.nil))) H10 hs 6 Try.func10 rfl (by kernel_rfl) x10
/-! trammel/inst.Put -/
def s11 : Sig := ⟨[(.agg [(.lf [(.i .u8)]), (.i .i64), (.lf [(.i .i64)]), (.lf [(.i .u64)]), (.lf [.b]), (.lf [.b])]), (.v (.lf [(.i .u8)])), (.v (.i .u64)), (.v (.i .u64)), (.v (.i .u64))], [(.agg [(.lo 5 [(.i .u8)]), (.i .i64), (.lo 3 [(.i .i64)]), (.lo 28 [(.i .u64)]), (.lo 4 [.b]), (.lo 4 [.b])]), (.v .b)]⟩
def H11 : Hint := ⟨[], [], [], 12, false⟩
def t11 : Vx.T := (.call 17 [(.iv 2), (.iv 3), (.ln 5)] [] [] 0 1 0 (.ite (.bv 0) (.call 17 [(.iv 1), (.iv 3), (.ln 0)] [] [] 0 1 0 (.ite (.nt (.bv 1)) (.ret [(.n 0)] [(.t false)] [.nil, .nil, .nil, .nil, .nil]) (.call 18 [(.iv 0)] [] [(.v 0), (.v 1), (.v 2), (.v 3), (.v 4)] 1 0 5 (.both (.rq (.an (.cm .leq (.n 0) (.iv 1)) (.an (.cm .leq (.iv 1) (.ln 6)) (.cm .leq (.ln 6) (.ln 6)))) (.rq (.an (.cm .leq (.n 0) (.iv 2)) (.an (.cm .leq (.iv 2) (.ar .add .u64 (.iv 2) (.iv 3))) (.cm .leq (.ar .add .u64 (.iv 2) (.iv 3)) (.ln 5)))) (.lst [(.cut (.v 5) (.iv 2) (.ar .add .u64 (.iv 2) (.iv 3)))] (.rq (.an (.cm .leq (.n 0) (.iv 1)) (.cm .leq (.iv 1) (.ln 6))) (.lst [(.cp 6 (.iv 1) 11)] (.ret [(.iv 4)] [(.t true)] [(.v 12), (.v 7), (.v 8), (.v 9), (.v 10)])))))) (.rq (.an (.cm .leq (.n 0) (.iv 2)) (.an (.cm .leq (.iv 2) (.ar .add .u64 (.iv 2) (.iv 3))) (.cm .leq (.ar .add .u64 (.iv 2) (.iv 3)) (.ln 5)))) (.lst [(.cut (.v 5) (.iv 2) (.ar .add .u64 (.iv 2) (.iv 3)))] (.rq (.an (.cm .leq (.n 0) (.iv 1)) (.an (.cm .leq (.iv 1) (.ln 6)) (.cm .leq (.ln 6) (.ln 6)))) (.rq (.an (.cm .leq (.n 0) (.iv 1)) (.cm .leq (.iv 1) (.ln 6))) (.lst [(.cp 6 (.iv 1) 11)] (.ret [(.iv 4)] [(.t true)] [(.v 12), (.v 7), (.v 8), (.v 9), (.v 10)])))))))))) (.ret [(.n 0)] [(.t false)] [.nil, .nil, .nil, .nil, .nil])))
def a11 : Tab := [⟨17, s17, F17⟩, ⟨18, s18, F18⟩]
theorem x11 : sxFn Try.prog (Tab.sig a11) (inlN Try.prog (Tab.sig a11) (hintOf hs) 6) H11 Try.f11 (Try.f11.body.getD .skip) s11 = t11 := by kernel_rfl
theorem e11_17 : Tab.fn a11 17 = F17 := by kernel_rfl
theorem e11_18 : Tab.fn a11 18 = F18 := by kernel_rfl
def F11 : Vx.Fn := Vx.Fd t11 (Tab.fn a11)
theorem g11 : Vx.Good Try.prog True_ 11 s11 F11 := good_of_tree hm hI (gcons g17 (gcons g18 Tab.Good.nil)) H11 hs 6 Try.func11 rfl (by kernel_rfl) x11
/-! trammel/trammelref13.Put -/
def s12 : Sig := ⟨[(.agg [(.lf [(.i .u8)]), (.i .i64), (.lf [(.i .i64)]), (.lf [(.i .u64)]), (.lf [.b]), (.lf [.b])]), (.v (.lf [(.i .u8)])), (.v (.i .u64)), (.v (.i .u64)), (.v (.i .u64))], [(.agg [(.lf [(.i .u8)]), (.i .i64), (.lf [(.i .i64)]), (.lf [(.i .u64)]), (.lf [.b]), (.lf [.b])]), (.v .b)]⟩
def H12 : Hint := ⟨[], [], [], 12, false⟩
def t12 : Vx.T := (.call 19 [(.iv 2), (.iv 3), (.ln 5)] [] [] 0 1 0 (.ite (.bv 0) (.call 19 [(.iv 1), (.iv 3), (.ln 0)] [] [] 0 1 0 (.ite (.nt (.bv 1)) (.ret [(.n 0)] [(.t false)] [.nil, .nil, .nil, .nil, .nil]) (.rq (.an (.cm .leq (.n 0) (.iv 1)) (.cm .leq (.iv 1) (.ln 0))) (.lst [(.cut (.v 0) (.n 0) (.iv 1))] (.call 16 [] [] [(.v 6)] 0 0 1 (.rq (.an (.cm .leq (.n 0) (.iv 2)) (.an (.cm .leq (.iv 2) (.ar .add .u64 (.iv 2) (.iv 3))) (.cm .leq (.ar .add .u64 (.iv 2) (.iv 3)) (.ln 5)))) (.lst [(.cut (.v 5) (.iv 2) (.ar .add .u64 (.iv 2) (.iv 3)))] (.rq (.an (.cm .leq (.ln 7) (.n 17592186044416)) (.cm .leq (.ln 8) (.n 17592186044416))) (.lst [(.ap (.v 7) (.v 8))] (.rq (.an (.cm .leq (.n 0) (.ar .add .u64 (.iv 1) (.iv 3))) (.an (.cm .leq (.ar .add .u64 (.iv 1) (.iv 3)) (.ln 0)) (.cm .leq (.ln 0) (.ln 0)))) (.lst [(.cut (.v 0) (.ar .add .u64 (.iv 1) (.iv 3)) (.ln 0))] (.rq (.an (.cm .leq (.ln 9) (.n 17592186044416)) (.cm .leq (.ln 10) (.n 17592186044416))) (.lst [(.ap (.v 9) (.v 10))] (.ret [(.iv 0)] [(.t true)] [(.v 11), (.v 1), (.v 2), (.v 3), (.v 4)])))))))))))))) (.ret [(.n 0)] [(.t false)] [.nil, .nil, .nil, .nil, .nil])))
def a12 : Tab := [⟨19, s19, F19⟩, ⟨16, s16, F16⟩]
theorem x12 : sxFn Try.prog (Tab.sig a12) (inlN Try.prog (Tab.sig a12) (hintOf hs) 6) H12 Try.f12 (Try.f12.body.getD .skip) s12 = t12 := by kernel_rfl
theorem e12_19 : Tab.fn a12 19 = F19 := by kernel_rfl
theorem e12_16 : Tab.fn a12 16 = F16 := by kernel_rfl
def F12 : Vx.Fn := Vx.Fd t12 (Tab.fn a12)
theorem g12 : Vx.Good Try.prog True_ 12 s12 F12 := good_of_tree hm hI (gcons g19 (gcons g16 Tab.Good.nil)) H12 hs 6 Try.func12 rfl (by kernel_rfl) x12
/-! trammel/trammelref13.Grow -/
def s14 : Sig := ⟨[(.agg [(.lf [(.i .u8)]), (.i .i64), (.lf [(.i .i64)]), (.lf [(.i .u64)]), (.lf [.b]), (.lf [.b])]), (.v (.i .u64)), (.v .b)], [(.agg [(.lf [(.i .u8)]), (.i .i64), (.lf [(.i .i64)]), (.lf [(.i .u64)]), (.lf [.b]), (.lf [.b])]), (.v (.i .u64))]⟩
def H14 : Hint := ⟨[], [], [], 12, false⟩
def t14 : Vx.T := (.lb (.cm .gtr (.ar .add .i64 (.ar .quo .i64 (.ln 0) (.n 65536)) (.cv .i64 (.iv 1))) (.iv 0)) (.lb (.oo (.oo (.nt (.bv 0)) (.cm .gtr (.iv 1) (.n 4))) (.bv 1)) (.lb (.cm .gtr (.ar .add .i64 (.ar .quo .i64 (.ln 0) (.n 65536)) (.cv .i64 (.iv 1))) (.n 4)) (.ite (.oo (.bv 2) (.bv 3)) (.ret [(.iv 0), (.n 4294967295)] [] [(.v 0), (.v 1), (.v 2), (.v 3), (.v 4)]) (.call 16 [] [] [(.v 0)] 0 0 1 (.rq (.an (.cm .leq (.ln 5) (.n 17592186044416)) (.an (.cm .leq (.n 0) (.ar .mul .i64 (.n 65536) (.cv .i64 (.iv 1)))) (.cm .leq (.ar .mul .i64 (.n 65536) (.cv .i64 (.iv 1))) (.n 17592186044416)))) (.lst [(.ap (.v 5) (.rep (.ar .mul .i64 (.n 65536) (.cv .i64 (.iv 1))) [(.i (.n 0))]))] (.ret [(.iv 0), (.cv .u64 (.ar .quo .i64 (.ln 0) (.n 65536)))] [] [(.v 6), (.v 1), (.v 2), (.v 3), (.v 4)]))))))))
def a14 : Tab := [⟨16, s16, F16⟩]
theorem x14 : sxFn Try.prog (Tab.sig a14) (inlN Try.prog (Tab.sig a14) (hintOf hs) 6) H14 Try.f14 (Try.f14.body.getD .skip) s14 = t14 := by kernel_rfl
theorem e14_16 : Tab.fn a14 16 = F16 := by kernel_rfl
def F14 : Vx.Fn := Vx.Fd t14 (Tab.fn a14)
theorem g14 : Vx.Good Try.prog True_ 14 s14 F14 := good_of_tree hm hI (gcons g16 Tab.Good.nil) H14 hs 6 Try.func14 rfl (by kernel_rfl) x14
/-! trammel/trammellaw13.InstLays -/
def s3 : Sig := ⟨[(.agg [(.lf [(.i .u8)]), (.i .i64), (.lf [(.i .i64)]), (.lf [(.i .u64)]), (.lf [.b]), (.lf [.b])]), (.v (.lf [(.i .i64)])), (.v (.lf [(.i .u8)])), (.v (.i .u64)), (.v (.i .u64)), (.v (.i .u64)), (.v .b)], [(.v .b)]⟩
def H3 : Hint := ⟨[], [], [], 12, false⟩
def t3 : Vx.T := (.call 5 [] [] [] 0 1 0 (.ite (.nt (.bv 1)) (.ret [] [(.t false)] []) (.call 6 [(.iv 0)] [] [(.v 0), (.v 1), (.v 2), (.v 3), (.v 4)] 0 1 0 (.lb (.oo (.oo (.nt (.bv 2)) (.cm .gtr (.ln 5) (.n 100))) (.cm .gtr (.ln 6) (.n 1000))) (.ite (.bv 3) (.ret [] [(.t true)] []) (.call 7 [(.iv 0)] [] [(.v 0), (.v 1), (.v 2), (.v 3), (.v 4)] 1 0 5 (.call 8 [(.iv 4), (.iv 1), (.iv 2), (.iv 3)] [] [(.v 7), (.v 8), (.v 9), (.v 10), (.v 11), (.v 5)] 1 1 5 (.call 9 [(.iv 0), (.iv 1), (.iv 2), (.iv 3)] [] [(.v 0), (.v 1), (.v 2), (.v 3), (.v 4), (.v 5)] 1 1 5 (.ite (.be (.bv 4) (.bv 5)) (.call 10 [(.iv 5), (.iv 6)] [] [(.v 12), (.v 13), (.v 14), (.v 15), (.v 16), (.v 17), (.v 18), (.v 19), (.v 20), (.v 21)] 0 1 0 (.ite (.nt (.bv 6)) (.ret [] [(.t false)] []) (.call 11 [(.iv 4), (.iv 1), (.iv 2), (.iv 3)] [] [(.v 7), (.v 8), (.v 9), (.v 10), (.v 11), (.v 6)] 1 1 5 (.call 12 [(.iv 0), (.iv 1), (.iv 2), (.iv 3)] [] [(.v 0), (.v 1), (.v 2), (.v 3), (.v 4), (.v 6)] 1 1 5 (.ite (.be (.bv 7) (.bv 8)) (.call 10 [(.iv 7), (.iv 8)] [] [(.v 22), (.v 23), (.v 24), (.v 25), (.v 26), (.v 27), (.v 28), (.v 29), (.v 30), (.v 31)] 0 1 0 (.ite (.nt (.bv 9)) (.ret [] [(.t false)] []) (.call 13 [(.iv 4), (.iv 3)] [(.bv 0)] [(.v 7), (.v 8), (.v 9), (.v 10), (.v 11)] 2 0 5 (.call 14 [(.iv 0), (.iv 3)] [(.bv 0)] [(.v 0), (.v 1), (.v 2), (.v 3), (.v 4)] 2 0 5 (.ite (.cm .eql (.iv 10) (.iv 12)) (.call 10 [(.iv 9), (.iv 11)] [] [(.v 32), (.v 33), (.v 34), (.v 35), (.v 36), (.v 37), (.v 38), (.v 39), (.v 40), (.v 41)] 0 1 0 (.ite (.bv 10) (.call 10 [(.iv 4), (.iv 0)] [] [(.v 7), (.v 8), (.v 9), (.v 10), (.v 11), (.v 0), (.v 1), (.v 2), (.v 3), (.v 4)] 0 1 0 (.ret [] [(.bv 11)] [])) (.ret [] [(.t false)] []))) (.ret [] [(.t false)] [])))))) (.ret [] [(.t false)] [])))))) (.ret [] [(.t false)] []))))))))))
def a3 : Tab := [⟨5, s5, F5⟩, ⟨6, s6, F6⟩, ⟨7, s7, F7⟩, ⟨8, s8, F8⟩, ⟨9, s9, F9⟩, ⟨10, s10, F10⟩, ⟨11, s11, F11⟩, ⟨12, s12, F12⟩, ⟨13, s13, F13⟩, ⟨14, s14, F14⟩]
theorem x3 : sxFn Try.prog (Tab.sig a3) (inlN Try.prog (Tab.sig a3) (hintOf hs) 6) H3 Try.f3 (Try.f3.body.getD .skip) s3 = t3 := by kernel_rfl
theorem e3_5 : Tab.fn a3 5 = F5 := by kernel_rfl
theorem e3_6 : Tab.fn a3 6 = F6 := by kernel_rfl
theorem e3_7 : Tab.fn a3 7 = F7 := by kernel_rfl
theorem e3_8 : Tab.fn a3 8 = F8 := by kernel_rfl
theorem e3_9 : Tab.fn a3 9 = F9 := by kernel_rfl
theorem e3_10 : Tab.fn a3 10 = F10 := by kernel_rfl
theorem e3_11 : Tab.fn a3 11 = F11 := by kernel_rfl
theorem e3_12 : Tab.fn a3 12 = F12 := by kernel_rfl
theorem e3_13 : Tab.fn a3 13 = F13 := by kernel_rfl
theorem e3_14 : Tab.fn a3 14 = F14 := by kernel_rfl
def F3 : Vx.Fn := Vx.Fd t3 (Tab.fn a3)
theorem g3 : Vx.Good Try.prog True_ 3 s3 F3 := good_of_tree hm hI (gcons g5 (gcons g6 (gcons g7 (gcons g8 (gcons g9 (gcons g10 (gcons g11 (gcons g12 (gcons g13 (gcons g14 Tab.Good.nil)))))))))) H3 hs 6 Try.func3 rfl (by kernel_rfl) x3
end Go.Proofs.Ytambhhochajgnaa.XInstLays

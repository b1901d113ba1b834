/-
  The trees of tests of the functions that AbsLattice reaches, that each is its code's, and what each function answers.
-/
import Derived.Test.YticpdchlknbodaaDoorSx
import Derived.Test.YticpdchlknbodaaDoorTabs
import Derived.Test.YticpdchlknbodaaDoorProg
import Derived.Test.YticpdchlknbodaaDoorEAbsLattice
namespace Go.Proofs.YticpdchlknbodaaDoor.XAbsLattice
open Go.Proofs.YticpdchlknbodaaDoor.Sx Go.Proofs.YticpdchlknbodaaDoor.EAbsLattice
set_option maxRecDepth 100000
theorem hI : ∀ w0 w, Tabs.Tabs w0 → RowKit.Below w0.heap.size w0 w → Tabs.Tabs w := fun _ _ h hb => Tabs.tabs_below h hb
theorem hm : Tryd.prog.follows .mixedOrders = true := by kernel_rfl
/-! trammel/ivl.Has -/
def s28 : Sig := ⟨[⟨true, [(some .u64), (some .u64)]⟩, ⟨false, [(some .u64)]⟩], [⟨false, [none]⟩]⟩
def t28 : Sx.T := (.lb (.an (.cm .leq (.iv 0) (.iv 2)) (.cm .leq (.iv 2) (.iv 1))) (.ret [] [(.bv 0)]))
def a28 : Tab := []
theorem x28 : sxFn Tryd.prog (Tab.sig a28) 12 Tryd.f28 (Tryd.f28.body.getD .skip) s28 = t28 := by kernel_rfl
def F28 : Sx.Fn := Sx.Fd 3 0 t28 (Tab.fn a28)
theorem g28 : Sx.Good Tryd.prog Tabs.Tabs 28 s28 F28 := good_of_tree hm hI Tab.Good.nil 12 Tryd.func28 rfl (by kernel_rfl) x28 rfl rfl
/-! trammel/low.Const -/
def s31 : Sig := ⟨[⟨false, [(some .u64)]⟩], [⟨true, [(some .i64), (some .u64)]⟩]⟩
def t31 : Sx.T := (.ret [(.n 64), (.iv 0)] [])
def a31 : Tab := []
theorem x31 : sxFn Tryd.prog (Tab.sig a31) 12 Tryd.f31 (Tryd.f31.body.getD .skip) s31 = t31 := by kernel_rfl
def F31 : Sx.Fn := Sx.Fd 1 0 t31 (Tab.fn a31)
theorem g31 : Sx.Good Tryd.prog Tabs.Tabs 31 s31 F31 := good_of_tree hm hI Tab.Good.nil 12 Tryd.func31 rfl (by kernel_rfl) x31 rfl rfl
/-! trammel/abs.Const -/
def s19 : Sig := ⟨[⟨false, [(some .u64)]⟩], [⟨true, [(some .u64), (some .u64), (some .i64), (some .u64)]⟩]⟩
def t19 : Sx.T := (.call (.t true) 31 [(.iv 0)] [] 2 0 (.ret [(.iv 0), (.iv 0), (.iv 1), (.iv 2)] []))
def a19 : Tab := [⟨31, s31, F31⟩]
theorem x19 : sxFn Tryd.prog (Tab.sig a19) 12 Tryd.f19 (Tryd.f19.body.getD .skip) s19 = t19 := by kernel_rfl
def F19 : Sx.Fn := Sx.Fd 1 0 t19 (Tab.fn a19)
theorem g19 : Sx.Good Tryd.prog Tabs.Tabs 19 s19 F19 := good_of_tree hm hI (Tab.Good.cons g31 Tab.Good.nil) 12 Tryd.func19 rfl (by kernel_rfl) x19 rfl rfl
/-! trammel/abs.Tight -/
def s18 : Sig := ⟨[⟨true, [(some .u64), (some .u64), (some .i64), (some .u64)]⟩], [⟨true, [(some .u64), (some .u64), (some .i64), (some .u64)]⟩, ⟨false, [none]⟩]⟩
def t18 : Sx.T := (.ite (.cm .geq (.iv 2) (.n 64)) (.call (.t true) 28 [(.iv 0), (.iv 1), (.iv 3)] [] 0 1 (.ite (.nt (.bv 0)) (.ret [(.n 0), (.n 0), (.n 0), (.n 0)] [(.t false)]) (.call (.t true) 19 [(.iv 3)] [] 4 0 (.ret [(.iv 4), (.iv 5), (.iv 6), (.iv 7)] [(.t true)])))) (.rq (.cm .geq (.cv .u64 (.mx (.iv 2) (.n 0))) (.n 0)) (.li (.ar .sub .u64 (.ar .shl .u64 (.n 1) (.cv .u64 (.mx (.iv 2) (.n 0)))) (.n 1)) (.li (.ar .sub .u64 (.ar .shl .u64 (.n 1) (.cv .u64 (.mx (.iv 2) (.n 0)))) (.n 1)) (.lb (.cm .gtr (.ar .and .u64 (.ar .sub .u64 (.iv 3) (.iv 0)) (.iv 4)) (.ar .sub .u64 (.iv 1) (.iv 0))) (.lb (.cm .gtr (.ar .and .u64 (.ar .sub .u64 (.iv 1) (.iv 3)) (.iv 5)) (.ar .sub .u64 (.iv 1) (.iv 0))) (.ite (.oo (.bv 0) (.bv 1)) (.ret [(.n 0), (.n 0), (.n 0), (.n 0)] [(.t false)]) (.li (.ar .add .u64 (.iv 0) (.ar .and .u64 (.ar .sub .u64 (.iv 3) (.iv 0)) (.iv 4))) (.li (.ar .sub .u64 (.iv 1) (.ar .and .u64 (.ar .sub .u64 (.iv 1) (.iv 3)) (.iv 5))) (.ite (.cm .eql (.iv 6) (.iv 7)) (.call (.t true) 19 [(.iv 6)] [] 4 0 (.ret [(.iv 8), (.iv 9), (.iv 10), (.iv 11)] [(.t true)])) (.ret [(.iv 6), (.iv 7), (.iv 2), (.iv 3)] [(.t true)])))))))))))
def a18 : Tab := [⟨28, s28, F28⟩, ⟨19, s19, F19⟩]
theorem x18 : sxFn Tryd.prog (Tab.sig a18) 12 Tryd.f18 (Tryd.f18.body.getD .skip) s18 = t18 := by kernel_rfl
def F18 : Sx.Fn := Sx.Fd 4 0 t18 (Tab.fn a18)
theorem g18 : Sx.Good Tryd.prog Tabs.Tabs 18 s18 F18 := good_of_tree hm hI (Tab.Good.cons g28 (Tab.Good.cons g19 Tab.Good.nil)) 12 Tryd.func18 rfl (by kernel_rfl) x18 rfl rfl
/-! trammel/low.mask -/
def s32 : Sig := ⟨[⟨false, [(some .i64)]⟩], [⟨false, [(some .u64)]⟩]⟩
def t32 : Sx.T := (.ite (.cm .geq (.iv 0) (.n 64)) (.ret [(.n 18446744073709551615)] []) (.rq (.cm .geq (.cv .u64 (.mx (.iv 0) (.n 0))) (.n 0)) (.li (.ar .sub .u64 (.ar .shl .u64 (.n 1) (.cv .u64 (.mx (.iv 0) (.n 0)))) (.n 1)) (.ret [(.iv 1)] []))))
def a32 : Tab := []
theorem x32 : sxFn Tryd.prog (Tab.sig a32) 12 Tryd.f32 (Tryd.f32.body.getD .skip) s32 = t32 := by kernel_rfl
def F32 : Sx.Fn := Sx.Fd 1 0 t32 (Tab.fn a32)
theorem g32 : Sx.Good Tryd.prog Tabs.Tabs 32 s32 F32 := good_of_tree hm hI Tab.Good.nil 12 Tryd.func32 rfl (by kernel_rfl) x32 rfl rfl
/-! trammel/low.Has -/
def s27 : Sig := ⟨[⟨true, [(some .i64), (some .u64)]⟩, ⟨false, [(some .u64)]⟩], [⟨false, [none]⟩]⟩
def t27 : Sx.T := (.call (.t true) 32 [(.iv 0)] [] 1 0 (.lb (.cm .eql (.ar .and .u64 (.ar .xor .u64 (.iv 2) (.iv 1)) (.iv 3)) (.n 0)) (.ret [] [(.bv 0)])))
def a27 : Tab := [⟨32, s32, F32⟩]
theorem x27 : sxFn Tryd.prog (Tab.sig a27) 12 Tryd.f27 (Tryd.f27.body.getD .skip) s27 = t27 := by kernel_rfl
def F27 : Sx.Fn := Sx.Fd 3 0 t27 (Tab.fn a27)
theorem g27 : Sx.Good Tryd.prog Tabs.Tabs 27 s27 F27 := good_of_tree hm hI (Tab.Good.cons g32 Tab.Good.nil) 12 Tryd.func27 rfl (by kernel_rfl) x27 rfl rfl
/-! trammel/abs.Has -/
def s16 : Sig := ⟨[⟨true, [(some .u64), (some .u64), (some .i64), (some .u64)]⟩, ⟨false, [(some .u64)]⟩], [⟨false, [none]⟩]⟩
def t16 : Sx.T := (.call (.t true) 28 [(.iv 0), (.iv 1), (.iv 4)] [] 0 1 (.call (.bv 0) 27 [(.iv 2), (.iv 3), (.iv 4)] [] 0 1 (.ret [] [(.an (.bv 0) (.bv 1))])))
def a16 : Tab := [⟨28, s28, F28⟩, ⟨27, s27, F27⟩]
theorem x16 : sxFn Tryd.prog (Tab.sig a16) 12 Tryd.f16 (Tryd.f16.body.getD .skip) s16 = t16 := by kernel_rfl
def F16 : Sx.Fn := Sx.Fd 5 0 t16 (Tab.fn a16)
theorem g16 : Sx.Good Tryd.prog Tabs.Tabs 16 s16 F16 := good_of_tree hm hI (Tab.Good.cons g28 (Tab.Good.cons g27 Tab.Good.nil)) 12 Tryd.func16 rfl (by kernel_rfl) x16 rfl rfl
/-! trammel/trammellaw18.awake -/
def s6 : Sig := ⟨[], [⟨false, [none]⟩]⟩
def t6 : Sx.T := (.call (.t true) 18 [(.n 1), (.n 9), (.n 2), (.n 0)] [] 4 1 (.lb (.an (.cm .eql (.iv 0) (.n 4)) (.cm .eql (.iv 1) (.n 8))) (.call (.an (.bv 0) (.bv 1)) 19 [(.n 7)] [] 4 0 (.call (.an (.bv 0) (.bv 1)) 16 [(.iv 4), (.iv 5), (.iv 6), (.iv 7), (.n 7)] [] 0 1 (.ret [] [(.an (.an (.bv 0) (.bv 1)) (.bv 2))])))))
def a6 : Tab := [⟨18, s18, F18⟩, ⟨19, s19, F19⟩, ⟨16, s16, F16⟩]
theorem x6 : sxFn Tryd.prog (Tab.sig a6) 12 Tryd.f6 (Tryd.f6.body.getD .skip) s6 = t6 := by kernel_rfl
def F6 : Sx.Fn := Sx.Fd 0 0 t6 (Tab.fn a6)
theorem g6 : Sx.Good Tryd.prog Tabs.Tabs 6 s6 F6 := good_of_tree hm hI (Tab.Good.cons g18 (Tab.Good.cons g19 (Tab.Good.cons g16 Tab.Good.nil))) 12 Tryd.func6 rfl (by kernel_rfl) x6 rfl rfl
/-! trammel/ivl.Right -/
def s20 : Sig := ⟨[⟨true, [(some .u64), (some .u64)]⟩], [⟨false, [none]⟩]⟩
def t20 : Sx.T := (.ret [] [(.cm .leq (.iv 0) (.iv 1))])
def a20 : Tab := []
theorem x20 : sxFn Tryd.prog (Tab.sig a20) 12 Tryd.f20 (Tryd.f20.body.getD .skip) s20 = t20 := by kernel_rfl
def F20 : Sx.Fn := Sx.Fd 2 0 t20 (Tab.fn a20)
theorem g20 : Sx.Good Tryd.prog Tabs.Tabs 20 s20 F20 := good_of_tree hm hI Tab.Good.nil 12 Tryd.func20 rfl (by kernel_rfl) x20 rfl rfl
/-! trammel/low.Right -/
def s21 : Sig := ⟨[⟨true, [(some .i64), (some .u64)]⟩], [⟨false, [none]⟩]⟩
def t21 : Sx.T := (.lb (.an (.cm .geq (.iv 0) (.n 0)) (.cm .leq (.iv 0) (.n 64))) (.call (.bv 0) 32 [(.iv 0)] [] 1 0 (.lb (.an (.bv 0) (.cm .eql (.ar .andNot .u64 (.iv 1) (.iv 2)) (.n 0))) (.ret [] [(.bv 1)]))))
def a21 : Tab := [⟨32, s32, F32⟩]
theorem x21 : sxFn Tryd.prog (Tab.sig a21) 12 Tryd.f21 (Tryd.f21.body.getD .skip) s21 = t21 := by kernel_rfl
def F21 : Sx.Fn := Sx.Fd 2 0 t21 (Tab.fn a21)
theorem g21 : Sx.Good Tryd.prog Tabs.Tabs 21 s21 F21 := good_of_tree hm hI (Tab.Good.cons g32 Tab.Good.nil) 12 Tryd.func21 rfl (by kernel_rfl) x21 rfl rfl
/-! trammel/abs.Right -/
def s7 : Sig := ⟨[⟨true, [(some .u64), (some .u64), (some .i64), (some .u64)]⟩], [⟨false, [none]⟩]⟩
def t7 : Sx.T := (.call (.t true) 20 [(.iv 0), (.iv 1)] [] 0 1 (.call (.bv 0) 21 [(.iv 2), (.iv 3)] [] 0 1 (.ret [] [(.an (.bv 0) (.bv 1))])))
def a7 : Tab := [⟨20, s20, F20⟩, ⟨21, s21, F21⟩]
theorem x7 : sxFn Tryd.prog (Tab.sig a7) 12 Tryd.f7 (Tryd.f7.body.getD .skip) s7 = t7 := by kernel_rfl
def F7 : Sx.Fn := Sx.Fd 4 0 t7 (Tab.fn a7)
theorem g7 : Sx.Good Tryd.prog Tabs.Tabs 7 s7 F7 := good_of_tree hm hI (Tab.Good.cons g20 (Tab.Good.cons g21 Tab.Good.nil)) 12 Tryd.func7 rfl (by kernel_rfl) x7 rfl rfl
/-! trammel/ivl.Join -/
def s13 : Sig := ⟨[⟨true, [(some .u64), (some .u64)]⟩, ⟨true, [(some .u64), (some .u64)]⟩], [⟨true, [(some .u64), (some .u64)]⟩]⟩
def t13 : Sx.T := (.ret [(.mn (.iv 0) (.iv 2)), (.mx (.iv 1) (.iv 3))] [])
def a13 : Tab := []
theorem x13 : sxFn Tryd.prog (Tab.sig a13) 12 Tryd.f13 (Tryd.f13.body.getD .skip) s13 = t13 := by kernel_rfl
def F13 : Sx.Fn := Sx.Fd 4 0 t13 (Tab.fn a13)
theorem g13 : Sx.Good Tryd.prog Tabs.Tabs 13 s13 F13 := good_of_tree hm hI Tab.Good.nil 12 Tryd.func13 rfl (by kernel_rfl) x13 rfl rfl
/-! trammel/low.Cut -/
def s25 : Sig := ⟨[⟨true, [(some .i64), (some .u64)]⟩, ⟨false, [(some .i64)]⟩], [⟨true, [(some .i64), (some .u64)]⟩]⟩
def t25 : Sx.T := (.ite (.cm .geq (.iv 2) (.iv 0)) (.ret [(.iv 0), (.iv 1)] []) (.call (.t true) 32 [(.iv 2)] [] 1 0 (.ret [(.mx (.iv 2) (.n 0)), (.ar .and .u64 (.iv 1) (.iv 3))] [])))
def a25 : Tab := [⟨32, s32, F32⟩]
theorem x25 : sxFn Tryd.prog (Tab.sig a25) 12 Tryd.f25 (Tryd.f25.body.getD .skip) s25 = t25 := by kernel_rfl
def F25 : Sx.Fn := Sx.Fd 3 0 t25 (Tab.fn a25)
theorem g25 : Sx.Good Tryd.prog Tabs.Tabs 25 s25 F25 := good_of_tree hm hI (Tab.Good.cons g32 Tab.Good.nil) 12 Tryd.func25 rfl (by kernel_rfl) x25 rfl rfl
/-! trammel/low.Join -/
def s14 : Sig := ⟨[⟨true, [(some .i64), (some .u64)]⟩, ⟨true, [(some .i64), (some .u64)]⟩], [⟨true, [(some .i64), (some .u64)]⟩]⟩
def t14 : Sx.T := (.call (.t true) 26 [(.ar .xor .u64 (.iv 1) (.iv 3))] [] 1 0 (.call (.t true) 25 [(.iv 0), (.iv 1), (.mn (.iv 2) (.iv 4))] [] 2 0 (.ret [(.iv 5), (.iv 6)] [])))
def a14 : Tab := [⟨26, s26, F26⟩, ⟨25, s25, F25⟩]
theorem x14 : sxFn Tryd.prog (Tab.sig a14) 12 Tryd.f14 (Tryd.f14.body.getD .skip) s14 = t14 := by kernel_rfl
def F14 : Sx.Fn := Sx.Fd 4 0 t14 (Tab.fn a14)
theorem g14 : Sx.Good Tryd.prog Tabs.Tabs 14 s14 F14 := good_of_tree hm hI (Tab.Good.cons g26 (Tab.Good.cons g25 Tab.Good.nil)) 12 Tryd.func14 rfl (by kernel_rfl) x14 rfl rfl
/-! trammel/abs.Join -/
def s8 : Sig := ⟨[⟨true, [(some .u64), (some .u64), (some .i64), (some .u64)]⟩, ⟨true, [(some .u64), (some .u64), (some .i64), (some .u64)]⟩], [⟨true, [(some .u64), (some .u64), (some .i64), (some .u64)]⟩]⟩
def t8 : Sx.T := (.call (.t true) 13 [(.iv 0), (.iv 1), (.iv 4), (.iv 5)] [] 2 0 (.call (.t true) 14 [(.iv 2), (.iv 3), (.iv 6), (.iv 7)] [] 2 0 (.ret [(.iv 8), (.iv 9), (.iv 10), (.iv 11)] [])))
def a8 : Tab := [⟨13, s13, F13⟩, ⟨14, s14, F14⟩]
theorem x8 : sxFn Tryd.prog (Tab.sig a8) 12 Tryd.f8 (Tryd.f8.body.getD .skip) s8 = t8 := by kernel_rfl
def F8 : Sx.Fn := Sx.Fd 8 0 t8 (Tab.fn a8)
theorem g8 : Sx.Good Tryd.prog Tabs.Tabs 8 s8 F8 := good_of_tree hm hI (Tab.Good.cons g13 (Tab.Good.cons g14 Tab.Good.nil)) 12 Tryd.func8 rfl (by kernel_rfl) x8 rfl rfl
/-! trammel/ivl.Within -/
def s11 : Sig := ⟨[⟨true, [(some .u64), (some .u64)]⟩, ⟨true, [(some .u64), (some .u64)]⟩], [⟨false, [none]⟩]⟩
def t11 : Sx.T := (.lb (.an (.cm .leq (.iv 2) (.iv 0)) (.cm .leq (.iv 1) (.iv 3))) (.ret [] [(.bv 0)]))
def a11 : Tab := []
theorem x11 : sxFn Tryd.prog (Tab.sig a11) 12 Tryd.f11 (Tryd.f11.body.getD .skip) s11 = t11 := by kernel_rfl
def F11 : Sx.Fn := Sx.Fd 4 0 t11 (Tab.fn a11)
theorem g11 : Sx.Good Tryd.prog Tabs.Tabs 11 s11 F11 := good_of_tree hm hI Tab.Good.nil 12 Tryd.func11 rfl (by kernel_rfl) x11 rfl rfl
/-! trammel/low.Within -/
def s15 : Sig := ⟨[⟨true, [(some .i64), (some .u64)]⟩, ⟨true, [(some .i64), (some .u64)]⟩], [⟨false, [none]⟩]⟩
def t15 : Sx.T := (.call (.cm .geq (.iv 0) (.iv 2)) 27 [(.iv 2), (.iv 3), (.iv 1)] [] 0 1 (.ret [] [(.an (.cm .geq (.iv 0) (.iv 2)) (.bv 0))]))
def a15 : Tab := [⟨27, s27, F27⟩]
theorem x15 : sxFn Tryd.prog (Tab.sig a15) 12 Tryd.f15 (Tryd.f15.body.getD .skip) s15 = t15 := by kernel_rfl
def F15 : Sx.Fn := Sx.Fd 4 0 t15 (Tab.fn a15)
theorem g15 : Sx.Good Tryd.prog Tabs.Tabs 15 s15 F15 := good_of_tree hm hI (Tab.Good.cons g27 Tab.Good.nil) 12 Tryd.func15 rfl (by kernel_rfl) x15 rfl rfl
/-! trammel/abs.Within -/
def s9 : Sig := ⟨[⟨true, [(some .u64), (some .u64), (some .i64), (some .u64)]⟩, ⟨true, [(some .u64), (some .u64), (some .i64), (some .u64)]⟩], [⟨false, [none]⟩]⟩
def t9 : Sx.T := (.call (.t true) 11 [(.iv 0), (.iv 1), (.iv 4), (.iv 5)] [] 0 1 (.call (.bv 0) 15 [(.iv 2), (.iv 3), (.iv 6), (.iv 7)] [] 0 1 (.ret [] [(.an (.bv 0) (.bv 1))])))
def a9 : Tab := [⟨11, s11, F11⟩, ⟨15, s15, F15⟩]
theorem x9 : sxFn Tryd.prog (Tab.sig a9) 12 Tryd.f9 (Tryd.f9.body.getD .skip) s9 = t9 := by kernel_rfl
def F9 : Sx.Fn := Sx.Fd 8 0 t9 (Tab.fn a9)
theorem g9 : Sx.Good Tryd.prog Tabs.Tabs 9 s9 F9 := good_of_tree hm hI (Tab.Good.cons g11 (Tab.Good.cons g15 Tab.Good.nil)) 12 Tryd.func9 rfl (by kernel_rfl) x9 rfl rfl
/-! trammel/ivl.Meet -/
def s29 : Sig := ⟨[⟨true, [(some .u64), (some .u64)]⟩, ⟨true, [(some .u64), (some .u64)]⟩], [⟨true, [(some .u64), (some .u64)]⟩, ⟨false, [none]⟩]⟩
def t29 : Sx.T := (.call (.t true) 20 [(.mx (.iv 0) (.iv 2)), (.mn (.iv 1) (.iv 3))] [] 0 1 (.ite (.nt (.bv 0)) (.ret [(.n 0), (.n 0)] [(.t false)]) (.ret [(.mx (.iv 0) (.iv 2)), (.mn (.iv 1) (.iv 3))] [(.t true)])))
def a29 : Tab := [⟨20, s20, F20⟩]
theorem x29 : sxFn Tryd.prog (Tab.sig a29) 12 Tryd.f29 (Tryd.f29.body.getD .skip) s29 = t29 := by kernel_rfl
def F29 : Sx.Fn := Sx.Fd 4 0 t29 (Tab.fn a29)
theorem g29 : Sx.Good Tryd.prog Tabs.Tabs 29 s29 F29 := good_of_tree hm hI (Tab.Good.cons g20 Tab.Good.nil) 12 Tryd.func29 rfl (by kernel_rfl) x29 rfl rfl
/-! trammel/low.Meet -/
def s30 : Sig := ⟨[⟨true, [(some .i64), (some .u64)]⟩, ⟨true, [(some .i64), (some .u64)]⟩], [⟨true, [(some .i64), (some .u64)]⟩, ⟨false, [none]⟩]⟩
def t30 : Sx.T := (.ite (.cm .lss (.iv 0) (.iv 2)) (.call (.t true) 27 [(.iv 0), (.iv 1), (.iv 3)] [] 0 1 (.ite (.nt (.bv 0)) (.ret [(.n 0), (.n 0)] [(.t false)]) (.ret [(.iv 2), (.iv 3)] [(.t true)]))) (.call (.t true) 27 [(.iv 2), (.iv 3), (.iv 1)] [] 0 1 (.ite (.nt (.bv 0)) (.ret [(.n 0), (.n 0)] [(.t false)]) (.ret [(.iv 0), (.iv 1)] [(.t true)]))))
def a30 : Tab := [⟨27, s27, F27⟩]
theorem x30 : sxFn Tryd.prog (Tab.sig a30) 12 Tryd.f30 (Tryd.f30.body.getD .skip) s30 = t30 := by kernel_rfl
def F30 : Sx.Fn := Sx.Fd 4 0 t30 (Tab.fn a30)
theorem g30 : Sx.Good Tryd.prog Tabs.Tabs 30 s30 F30 := good_of_tree hm hI (Tab.Good.cons g27 Tab.Good.nil) 12 Tryd.func30 rfl (by kernel_rfl) x30 rfl rfl
/-! trammel/abs.Meet -/
def s17 : Sig := ⟨[⟨true, [(some .u64), (some .u64), (some .i64), (some .u64)]⟩, ⟨true, [(some .u64), (some .u64), (some .i64), (some .u64)]⟩], [⟨true, [(some .u64), (some .u64), (some .i64), (some .u64)]⟩, ⟨false, [none]⟩]⟩
def t17 : Sx.T := (.call (.t true) 29 [(.iv 0), (.iv 1), (.iv 4), (.iv 5)] [] 2 1 (.call (.t true) 30 [(.iv 2), (.iv 3), (.iv 6), (.iv 7)] [] 2 1 (.ite (.oo (.nt (.bv 0)) (.nt (.bv 1))) (.ret [(.n 0), (.n 0), (.n 0), (.n 0)] [(.t false)]) (.call (.t true) 18 [(.iv 8), (.iv 9), (.iv 10), (.iv 11)] [] 4 1 (.ret [(.iv 12), (.iv 13), (.iv 14), (.iv 15)] [(.bv 2)])))))
def a17 : Tab := [⟨29, s29, F29⟩, ⟨30, s30, F30⟩, ⟨18, s18, F18⟩]
theorem x17 : sxFn Tryd.prog (Tab.sig a17) 12 Tryd.f17 (Tryd.f17.body.getD .skip) s17 = t17 := by kernel_rfl
def F17 : Sx.Fn := Sx.Fd 8 0 t17 (Tab.fn a17)
theorem g17 : Sx.Good Tryd.prog Tabs.Tabs 17 s17 F17 := good_of_tree hm hI (Tab.Good.cons g29 (Tab.Good.cons g30 (Tab.Good.cons g18 Tab.Good.nil))) 12 Tryd.func17 rfl (by kernel_rfl) x17 rfl rfl
/-! trammel/trammellaw18.AbsLattice -/
def s5 : Sig := ⟨[⟨true, [(some .u64), (some .u64), (some .i64), (some .u64)]⟩, ⟨true, [(some .u64), (some .u64), (some .i64), (some .u64)]⟩, ⟨false, [(some .u64)]⟩], [⟨false, [none]⟩]⟩
def t5 : Sx.T := (.call (.t true) 6 [] [] 0 1 (.ite (.nt (.bv 0)) (.ret [] [(.t false)]) (.call (.t true) 7 [(.iv 0), (.iv 1), (.iv 2), (.iv 3)] [] 0 1 (.call (.bv 1) 7 [(.iv 4), (.iv 5), (.iv 6), (.iv 7)] [] 0 1 (.ite (.oo (.nt (.bv 1)) (.nt (.bv 2))) (.ret [] [(.t true)]) (.call (.t true) 8 [(.iv 0), (.iv 1), (.iv 2), (.iv 3), (.iv 4), (.iv 5), (.iv 6), (.iv 7)] [] 4 0 (.call (.t true) 13 [(.iv 0), (.iv 1), (.iv 4), (.iv 5)] [] 2 0 (.call (.t true) 14 [(.iv 2), (.iv 3), (.iv 6), (.iv 7)] [] 2 0 (.lb (.nt (.an (.an (.cm .eql (.iv 9) (.iv 13)) (.cm .eql (.iv 10) (.iv 14))) (.an (.cm .eql (.iv 11) (.iv 15)) (.cm .eql (.iv 12) (.iv 16))))) (.call (.nt (.bv 3)) 9 [(.iv 0), (.iv 1), (.iv 2), (.iv 3), (.iv 9), (.iv 10), (.iv 11), (.iv 12)] [] 0 1 (.call (.nt (.oo (.bv 3) (.nt (.bv 4)))) 9 [(.iv 4), (.iv 5), (.iv 6), (.iv 7), (.iv 9), (.iv 10), (.iv 11), (.iv 12)] [] 0 1 (.lb (.oo (.oo (.bv 3) (.nt (.bv 4))) (.nt (.bv 5))) (.call (.nt (.bv 6)) 9 [(.iv 0), (.iv 1), (.iv 2), (.iv 3), (.iv 4), (.iv 5), (.iv 6), (.iv 7)] [] 0 1 (.call (.nt (.bv 6)) 11 [(.iv 0), (.iv 1), (.iv 4), (.iv 5)] [] 0 1 (.call (.an (.nt (.bv 6)) (.bv 8)) 15 [(.iv 2), (.iv 3), (.iv 6), (.iv 7)] [] 0 1 (.lb (.oo (.bv 6) (.nt (.be (.bv 7) (.an (.bv 8) (.bv 9))))) (.ite (.bv 10) (.ret [] [(.t false)]) (.call (.t true) 16 [(.iv 0), (.iv 1), (.iv 2), (.iv 3), (.iv 8)] [] 0 1 (.call (.nt (.bv 11)) 16 [(.iv 4), (.iv 5), (.iv 6), (.iv 7), (.iv 8)] [] 0 1 (.call (.oo (.bv 11) (.bv 12)) 16 [(.iv 9), (.iv 10), (.iv 11), (.iv 12), (.iv 8)] [] 0 1 (.call (.nt (.an (.oo (.bv 11) (.bv 12)) (.nt (.bv 13)))) 9 [(.iv 0), (.iv 1), (.iv 2), (.iv 3), (.iv 4), (.iv 5), (.iv 6), (.iv 7)] [] 0 1 (.call (.an (.nt (.an (.oo (.bv 11) (.bv 12)) (.nt (.bv 13)))) (.bv 14)) 16 [(.iv 0), (.iv 1), (.iv 2), (.iv 3), (.iv 8)] [] 0 1 (.call (.an (.nt (.an (.oo (.bv 11) (.bv 12)) (.nt (.bv 13)))) (.an (.bv 14) (.bv 15))) 16 [(.iv 4), (.iv 5), (.iv 6), (.iv 7), (.iv 8)] [] 0 1 (.lb (.oo (.an (.oo (.bv 11) (.bv 12)) (.nt (.bv 13))) (.an (.an (.bv 14) (.bv 15)) (.nt (.bv 16)))) (.ite (.bv 17) (.ret [] [(.t false)]) (.call (.t true) 17 [(.iv 0), (.iv 1), (.iv 2), (.iv 3), (.iv 4), (.iv 5), (.iv 6), (.iv 7)] [] 4 1 (.ite (.nt (.bv 18)) (.call (.t true) 16 [(.iv 0), (.iv 1), (.iv 2), (.iv 3), (.iv 8)] [] 0 1 (.call (.bv 19) 16 [(.iv 4), (.iv 5), (.iv 6), (.iv 7), (.iv 8)] [] 0 1 (.lb (.an (.an (.cm .eql (.iv 17) (.n 0)) (.cm .eql (.iv 18) (.n 0))) (.an (.cm .eql (.iv 19) (.n 0)) (.cm .eql (.iv 20) (.n 0)))) (.ret [] [(.an (.nt (.an (.bv 19) (.bv 20))) (.bv 21))])))) (.call (.t true) 16 [(.iv 17), (.iv 18), (.iv 19), (.iv 20), (.iv 8)] [] 0 1 (.call (.t true) 16 [(.iv 0), (.iv 1), (.iv 2), (.iv 3), (.iv 8)] [] 0 1 (.call (.bv 20) 16 [(.iv 4), (.iv 5), (.iv 6), (.iv 7), (.iv 8)] [] 0 1 (.call (.be (.bv 19) (.an (.bv 20) (.bv 21))) 7 [(.iv 17), (.iv 18), (.iv 19), (.iv 20)] [] 0 1 (.lb (.an (.be (.bv 19) (.an (.bv 20) (.bv 21))) (.bv 22)) (.ret [] [(.bv 23)])))))))))))))))))))))))))))))))))
def a5 : Tab := [⟨6, s6, F6⟩, ⟨7, s7, F7⟩, ⟨8, s8, F8⟩, ⟨13, s13, F13⟩, ⟨14, s14, F14⟩, ⟨9, s9, F9⟩, ⟨11, s11, F11⟩, ⟨15, s15, F15⟩, ⟨16, s16, F16⟩, ⟨17, s17, F17⟩]
theorem x5 : sxFn Tryd.prog (Tab.sig a5) 12 Tryd.f5 (Tryd.f5.body.getD .skip) s5 = t5 := by kernel_rfl
def F5 : Sx.Fn := Sx.Fd 9 0 t5 (Tab.fn a5)
theorem g5 : Sx.Good Tryd.prog Tabs.Tabs 5 s5 F5 := good_of_tree hm hI (Tab.Good.cons g6 (Tab.Good.cons g7 (Tab.Good.cons g8 (Tab.Good.cons g13 (Tab.Good.cons g14 (Tab.Good.cons g9 (Tab.Good.cons g11 (Tab.Good.cons g15 (Tab.Good.cons g16 (Tab.Good.cons g17 Tab.Good.nil)))))))))) 12 Tryd.func5 rfl (by kernel_rfl) x5 rfl rfl
end Go.Proofs.YticpdchlknbodaaDoor.XAbsLattice

/-
  The trees of tests of the functions that AbsHas reaches, that each is its code's, and what each function answers.
-/
import Derived.Test.YticpdchlknbodaaSx
import Derived.Test.YticpdchlknbodaaProg
namespace Go.Proofs.Yticpdchlknbodaa.XAbsHas
open Go.Proofs.Yticpdchlknbodaa.Sx
set_option maxRecDepth 100000
def True_ : World → Prop := fun _ => True
theorem hI : ∀ w0 w, True_ w0 → RowKit.Below w0.heap.size w0 w → True_ w := (fun _ _ _ _ => trivial)
theorem hm : Try.prog.follows .mixedOrders = true := by kernel_rfl
/-! trammel/ivl.Has -/
def s15 : Sig := ⟨[⟨true, [(some .u64), (some .u64)]⟩, ⟨false, [(some .u64)]⟩], [⟨false, [none]⟩]⟩
def t15 : Sx.T := (.lb (.an (.cm .leq (.iv 0) (.iv 2)) (.cm .leq (.iv 2) (.iv 1))) (.ret [] [(.bv 0)]))
def a15 : Tab := []
theorem x15 : sxFn Try.prog (Tab.sig a15) 12 Try.f15 (Try.f15.body.getD .skip) s15 = t15 := by kernel_rfl
def F15 : Sx.Fn := Sx.Fd 3 0 t15 (Tab.fn a15)
theorem g15 : Sx.Good Try.prog True_ 15 s15 F15 := good_of_tree hm hI Tab.Good.nil 12 Try.func15 rfl (by kernel_rfl) x15 rfl rfl
/-! trammel/low.Const -/
def s21 : Sig := ⟨[⟨false, [(some .u64)]⟩], [⟨true, [(some .i64), (some .u64)]⟩]⟩
def t21 : Sx.T := (.ret [(.n 64), (.iv 0)] [])
def a21 : Tab := []
theorem x21 : sxFn Try.prog (Tab.sig a21) 12 Try.f21 (Try.f21.body.getD .skip) s21 = t21 := by kernel_rfl
def F21 : Sx.Fn := Sx.Fd 1 0 t21 (Tab.fn a21)
theorem g21 : Sx.Good Try.prog True_ 21 s21 F21 := good_of_tree hm hI Tab.Good.nil 12 Try.func21 rfl (by kernel_rfl) x21 rfl rfl
/-! trammel/abs.Const -/
def s14 : Sig := ⟨[⟨false, [(some .u64)]⟩], [⟨true, [(some .u64), (some .u64), (some .i64), (some .u64)]⟩]⟩
def t14 : Sx.T := (.call (.t true) 21 [(.iv 0)] [] 2 0 (.ret [(.iv 0), (.iv 0), (.iv 1), (.iv 2)] []))
def a14 : Tab := [⟨21, s21, F21⟩]
theorem x14 : sxFn Try.prog (Tab.sig a14) 12 Try.f14 (Try.f14.body.getD .skip) s14 = t14 := by kernel_rfl
def F14 : Sx.Fn := Sx.Fd 1 0 t14 (Tab.fn a14)
theorem g14 : Sx.Good Try.prog True_ 14 s14 F14 := good_of_tree hm hI (Tab.Good.cons g21 Tab.Good.nil) 12 Try.func14 rfl (by kernel_rfl) x14 rfl rfl
/-! trammel/abs.Tight -/
def s7 : Sig := ⟨[⟨true, [(some .u64), (some .u64), (some .i64), (some .u64)]⟩], [⟨true, [(some .u64), (some .u64), (some .i64), (some .u64)]⟩, ⟨false, [none]⟩]⟩
def t7 : Sx.T := (.ite (.cm .geq (.iv 2) (.n 64)) (.call (.t true) 15 [(.iv 0), (.iv 1), (.iv 3)] [] 0 1 (.ite (.nt (.bv 0)) (.ret [(.n 0), (.n 0), (.n 0), (.n 0)] [(.t false)]) (.call (.t true) 14 [(.iv 3)] [] 4 0 (.ret [(.iv 4), (.iv 5), (.iv 6), (.iv 7)] [(.t true)])))) (.rq (.cm .geq (.cv .u64 (.mx (.iv 2) (.n 0))) (.n 0)) (.li (.ar .sub .u64 (.ar .shl .u64 (.n 1) (.cv .u64 (.mx (.iv 2) (.n 0)))) (.n 1)) (.li (.ar .sub .u64 (.ar .shl .u64 (.n 1) (.cv .u64 (.mx (.iv 2) (.n 0)))) (.n 1)) (.lb (.cm .gtr (.ar .and .u64 (.ar .sub .u64 (.iv 3) (.iv 0)) (.iv 4)) (.ar .sub .u64 (.iv 1) (.iv 0))) (.lb (.cm .gtr (.ar .and .u64 (.ar .sub .u64 (.iv 1) (.iv 3)) (.iv 5)) (.ar .sub .u64 (.iv 1) (.iv 0))) (.ite (.oo (.bv 0) (.bv 1)) (.ret [(.n 0), (.n 0), (.n 0), (.n 0)] [(.t false)]) (.li (.ar .add .u64 (.iv 0) (.ar .and .u64 (.ar .sub .u64 (.iv 3) (.iv 0)) (.iv 4))) (.li (.ar .sub .u64 (.iv 1) (.ar .and .u64 (.ar .sub .u64 (.iv 1) (.iv 3)) (.iv 5))) (.ite (.cm .eql (.iv 6) (.iv 7)) (.call (.t true) 14 [(.iv 6)] [] 4 0 (.ret [(.iv 8), (.iv 9), (.iv 10), (.iv 11)] [(.t true)])) (.ret [(.iv 6), (.iv 7), (.iv 2), (.iv 3)] [(.t true)])))))))))))
def a7 : Tab := [⟨15, s15, F15⟩, ⟨14, s14, F14⟩]
theorem x7 : sxFn Try.prog (Tab.sig a7) 12 Try.f7 (Try.f7.body.getD .skip) s7 = t7 := by kernel_rfl
def F7 : Sx.Fn := Sx.Fd 4 0 t7 (Tab.fn a7)
theorem g7 : Sx.Good Try.prog True_ 7 s7 F7 := good_of_tree hm hI (Tab.Good.cons g15 (Tab.Good.cons g14 Tab.Good.nil)) 12 Try.func7 rfl (by kernel_rfl) x7 rfl rfl
/-! trammel/low.mask -/
def s18 : Sig := ⟨[⟨false, [(some .i64)]⟩], [⟨false, [(some .u64)]⟩]⟩
def t18 : Sx.T := (.ite (.cm .geq (.iv 0) (.n 64)) (.ret [(.n 18446744073709551615)] []) (.rq (.cm .geq (.cv .u64 (.mx (.iv 0) (.n 0))) (.n 0)) (.li (.ar .sub .u64 (.ar .shl .u64 (.n 1) (.cv .u64 (.mx (.iv 0) (.n 0)))) (.n 1)) (.ret [(.iv 1)] []))))
def a18 : Tab := []
theorem x18 : sxFn Try.prog (Tab.sig a18) 12 Try.f18 (Try.f18.body.getD .skip) s18 = t18 := by kernel_rfl
def F18 : Sx.Fn := Sx.Fd 1 0 t18 (Tab.fn a18)
theorem g18 : Sx.Good Try.prog True_ 18 s18 F18 := good_of_tree hm hI Tab.Good.nil 12 Try.func18 rfl (by kernel_rfl) x18 rfl rfl
/-! trammel/low.Has -/
def s13 : Sig := ⟨[⟨true, [(some .i64), (some .u64)]⟩, ⟨false, [(some .u64)]⟩], [⟨false, [none]⟩]⟩
def t13 : Sx.T := (.call (.t true) 18 [(.iv 0)] [] 1 0 (.lb (.cm .eql (.ar .and .u64 (.ar .xor .u64 (.iv 2) (.iv 1)) (.iv 3)) (.n 0)) (.ret [] [(.bv 0)])))
def a13 : Tab := [⟨18, s18, F18⟩]
theorem x13 : sxFn Try.prog (Tab.sig a13) 12 Try.f13 (Try.f13.body.getD .skip) s13 = t13 := by kernel_rfl
def F13 : Sx.Fn := Sx.Fd 3 0 t13 (Tab.fn a13)
theorem g13 : Sx.Good Try.prog True_ 13 s13 F13 := good_of_tree hm hI (Tab.Good.cons g18 Tab.Good.nil) 12 Try.func13 rfl (by kernel_rfl) x13 rfl rfl
/-! trammel/abs.Has -/
def s8 : Sig := ⟨[⟨true, [(some .u64), (some .u64), (some .i64), (some .u64)]⟩, ⟨false, [(some .u64)]⟩], [⟨false, [none]⟩]⟩
def t8 : Sx.T := (.call (.t true) 15 [(.iv 0), (.iv 1), (.iv 4)] [] 0 1 (.call (.bv 0) 13 [(.iv 2), (.iv 3), (.iv 4)] [] 0 1 (.ret [] [(.an (.bv 0) (.bv 1))])))
def a8 : Tab := [⟨15, s15, F15⟩, ⟨13, s13, F13⟩]
theorem x8 : sxFn Try.prog (Tab.sig a8) 12 Try.f8 (Try.f8.body.getD .skip) s8 = t8 := by kernel_rfl
def F8 : Sx.Fn := Sx.Fd 5 0 t8 (Tab.fn a8)
theorem g8 : Sx.Good Try.prog True_ 8 s8 F8 := good_of_tree hm hI (Tab.Good.cons g15 (Tab.Good.cons g13 Tab.Good.nil)) 12 Try.func8 rfl (by kernel_rfl) x8 rfl rfl
/-! trammel/trammellaw18.awake -/
def s5 : Sig := ⟨[], [⟨false, [none]⟩]⟩
def t5 : Sx.T := (.call (.t true) 7 [(.n 1), (.n 9), (.n 2), (.n 0)] [] 4 1 (.lb (.an (.cm .eql (.iv 0) (.n 4)) (.cm .eql (.iv 1) (.n 8))) (.call (.an (.bv 0) (.bv 1)) 14 [(.n 7)] [] 4 0 (.call (.an (.bv 0) (.bv 1)) 8 [(.iv 4), (.iv 5), (.iv 6), (.iv 7), (.n 7)] [] 0 1 (.ret [] [(.an (.an (.bv 0) (.bv 1)) (.bv 2))])))))
def a5 : Tab := [⟨7, s7, F7⟩, ⟨14, s14, F14⟩, ⟨8, s8, F8⟩]
theorem x5 : sxFn Try.prog (Tab.sig a5) 12 Try.f5 (Try.f5.body.getD .skip) s5 = t5 := by kernel_rfl
def F5 : Sx.Fn := Sx.Fd 0 0 t5 (Tab.fn a5)
theorem g5 : Sx.Good Try.prog True_ 5 s5 F5 := good_of_tree hm hI (Tab.Good.cons g7 (Tab.Good.cons g14 (Tab.Good.cons g8 Tab.Good.nil))) 12 Try.func5 rfl (by kernel_rfl) x5 rfl rfl
/-! trammel/ivl.Right -/
def s10 : Sig := ⟨[⟨true, [(some .u64), (some .u64)]⟩], [⟨false, [none]⟩]⟩
def t10 : Sx.T := (.ret [] [(.cm .leq (.iv 0) (.iv 1))])
def a10 : Tab := []
theorem x10 : sxFn Try.prog (Tab.sig a10) 12 Try.f10 (Try.f10.body.getD .skip) s10 = t10 := by kernel_rfl
def F10 : Sx.Fn := Sx.Fd 2 0 t10 (Tab.fn a10)
theorem g10 : Sx.Good Try.prog True_ 10 s10 F10 := good_of_tree hm hI Tab.Good.nil 12 Try.func10 rfl (by kernel_rfl) x10 rfl rfl
/-! trammel/low.Right -/
def s11 : Sig := ⟨[⟨true, [(some .i64), (some .u64)]⟩], [⟨false, [none]⟩]⟩
def t11 : Sx.T := (.lb (.an (.cm .geq (.iv 0) (.n 0)) (.cm .leq (.iv 0) (.n 64))) (.call (.bv 0) 18 [(.iv 0)] [] 1 0 (.lb (.an (.bv 0) (.cm .eql (.ar .andNot .u64 (.iv 1) (.iv 2)) (.n 0))) (.ret [] [(.bv 1)]))))
def a11 : Tab := [⟨18, s18, F18⟩]
theorem x11 : sxFn Try.prog (Tab.sig a11) 12 Try.f11 (Try.f11.body.getD .skip) s11 = t11 := by kernel_rfl
def F11 : Sx.Fn := Sx.Fd 2 0 t11 (Tab.fn a11)
theorem g11 : Sx.Good Try.prog True_ 11 s11 F11 := good_of_tree hm hI (Tab.Good.cons g18 Tab.Good.nil) 12 Try.func11 rfl (by kernel_rfl) x11 rfl rfl
/-! trammel/abs.Right -/
def s6 : Sig := ⟨[⟨true, [(some .u64), (some .u64), (some .i64), (some .u64)]⟩], [⟨false, [none]⟩]⟩
def t6 : Sx.T := (.call (.t true) 10 [(.iv 0), (.iv 1)] [] 0 1 (.call (.bv 0) 11 [(.iv 2), (.iv 3)] [] 0 1 (.ret [] [(.an (.bv 0) (.bv 1))])))
def a6 : Tab := [⟨10, s10, F10⟩, ⟨11, s11, F11⟩]
theorem x6 : sxFn Try.prog (Tab.sig a6) 12 Try.f6 (Try.f6.body.getD .skip) s6 = t6 := by kernel_rfl
def F6 : Sx.Fn := Sx.Fd 4 0 t6 (Tab.fn a6)
theorem g6 : Sx.Good Try.prog True_ 6 s6 F6 := good_of_tree hm hI (Tab.Good.cons g10 (Tab.Good.cons g11 Tab.Good.nil)) 12 Try.func6 rfl (by kernel_rfl) x6 rfl rfl
/-! trammel/abs.width -/
def s20 : Sig := ⟨[⟨false, [(some .i64)]⟩], [⟨false, [(some .i64)]⟩]⟩
def t20 : Sx.T := (.ite (.cm .eql (.iv 0) (.n 127)) (.ret [(.n 32)] []) (.ret [(.n 64)] []))
def a20 : Tab := []
theorem x20 : sxFn Try.prog (Tab.sig a20) 12 Try.f20 (Try.f20.body.getD .skip) s20 = t20 := by kernel_rfl
def F20 : Sx.Fn := Sx.Fd 1 0 t20 (Tab.fn a20)
theorem g20 : Sx.Good Try.prog True_ 20 s20 F20 := good_of_tree hm hI Tab.Good.nil 12 Try.func20 rfl (by kernel_rfl) x20 rfl rfl
/-! trammel/ivl.All -/
def s19 : Sig := ⟨[⟨false, [(some .i64)]⟩], [⟨true, [(some .u64), (some .u64)]⟩]⟩
def t19 : Sx.T := (.ite (.cm .eql (.iv 0) (.n 32)) (.ret [(.n 0), (.n 4294967295)] []) (.ret [(.n 0), (.n 18446744073709551615)] []))
def a19 : Tab := []
theorem x19 : sxFn Try.prog (Tab.sig a19) 12 Try.f19 (Try.f19.body.getD .skip) s19 = t19 := by kernel_rfl
def F19 : Sx.Fn := Sx.Fd 1 0 t19 (Tab.fn a19)
theorem g19 : Sx.Good Try.prog True_ 19 s19 F19 := good_of_tree hm hI Tab.Good.nil 12 Try.func19 rfl (by kernel_rfl) x19 rfl rfl
/-! trammel/abs.Top -/
def s12 : Sig := ⟨[⟨false, [(some .i64)]⟩], [⟨true, [(some .u64), (some .u64), (some .i64), (some .u64)]⟩]⟩
def t12 : Sx.T := (.call (.t true) 20 [(.iv 0)] [] 1 0 (.call (.t true) 19 [(.iv 1)] [] 2 0 (.ret [(.iv 2), (.iv 3), (.n 0), (.n 0)] [])))
def a12 : Tab := [⟨20, s20, F20⟩, ⟨19, s19, F19⟩]
theorem x12 : sxFn Try.prog (Tab.sig a12) 12 Try.f12 (Try.f12.body.getD .skip) s12 = t12 := by kernel_rfl
def F12 : Sx.Fn := Sx.Fd 1 0 t12 (Tab.fn a12)
theorem g12 : Sx.Good Try.prog True_ 12 s12 F12 := good_of_tree hm hI (Tab.Good.cons g20 (Tab.Good.cons g19 Tab.Good.nil)) 12 Try.func12 rfl (by kernel_rfl) x12 rfl rfl
/-! trammel/trammellaw18.AbsHas -/
def s4 : Sig := ⟨[⟨true, [(some .u64), (some .u64), (some .i64), (some .u64)]⟩, ⟨false, [(some .u64)]⟩, ⟨false, [(some .i64)]⟩], [⟨false, [none]⟩]⟩
def t4 : Sx.T := (.call (.t true) 5 [] [] 0 1 (.ite (.nt (.bv 0)) (.ret [] [(.t false)]) (.call (.t true) 6 [(.iv 0), (.iv 1), (.iv 2), (.iv 3)] [] 0 1 (.call (.t true) 10 [(.iv 0), (.iv 1)] [] 0 1 (.call (.bv 2) 11 [(.iv 2), (.iv 3)] [] 0 1 (.ite (.nt (.be (.bv 1) (.an (.bv 2) (.bv 3)))) (.ret [] [(.t false)]) (.call (.t true) 6 [(.iv 0), (.iv 1), (.iv 2), (.iv 3)] [] 0 1 (.ite (.nt (.bv 4)) (.ret [] [(.t true)]) (.call (.t true) 12 [(.iv 5)] [] 4 0 (.call (.t true) 8 [(.iv 0), (.iv 1), (.iv 2), (.iv 3), (.iv 4)] [] 0 1 (.lb (.an (.cm .leq (.iv 0) (.iv 4)) (.cm .leq (.iv 4) (.iv 1))) (.call (.bv 6) 13 [(.iv 2), (.iv 3), (.iv 4)] [] 0 1 (.call (.be (.bv 5) (.an (.bv 6) (.bv 7))) 8 [(.iv 6), (.iv 7), (.iv 8), (.iv 9), (.iv 4)] [] 0 1 (.lb (.oo (.cm .neq (.iv 5) (.n 127)) (.cm .lss (.iv 4) (.n 4294967296))) (.lb (.an (.be (.bv 5) (.an (.bv 6) (.bv 7))) (.be (.bv 8) (.bv 9))) (.lb (.an (.cm .eql (.iv 8) (.n 0)) (.cm .eql (.iv 9) (.n 0))) (.call (.an (.bv 10) (.bv 11)) 6 [(.iv 6), (.iv 7), (.iv 8), (.iv 9)] [] 0 1 (.call (.an (.an (.bv 10) (.bv 11)) (.bv 12)) 14 [(.iv 4)] [] 4 0 (.call (.an (.an (.bv 10) (.bv 11)) (.bv 12)) 8 [(.iv 10), (.iv 11), (.iv 12), (.iv 13), (.iv 4)] [] 0 1 (.lb (.an (.an (.an (.bv 10) (.bv 11)) (.bv 12)) (.bv 13)) (.call (.bv 14) 14 [(.iv 4)] [] 4 0 (.lb (.an (.cm .eql (.iv 14) (.iv 4)) (.cm .eql (.iv 15) (.iv 4))) (.call (.an (.bv 14) (.bv 15)) 14 [(.iv 4)] [] 4 0 (.lb (.an (.an (.bv 14) (.bv 15)) (.cm .eql (.iv 20) (.n 64))) (.ret [] [(.bv 16)])))))))))))))))))))))))))
def a4 : Tab := [⟨5, s5, F5⟩, ⟨6, s6, F6⟩, ⟨10, s10, F10⟩, ⟨11, s11, F11⟩, ⟨12, s12, F12⟩, ⟨8, s8, F8⟩, ⟨13, s13, F13⟩, ⟨14, s14, F14⟩]
theorem x4 : sxFn Try.prog (Tab.sig a4) 12 Try.f4 (Try.f4.body.getD .skip) s4 = t4 := by kernel_rfl
def F4 : Sx.Fn := Sx.Fd 6 0 t4 (Tab.fn a4)
theorem g4 : Sx.Good Try.prog True_ 4 s4 F4 := good_of_tree hm hI (Tab.Good.cons g5 (Tab.Good.cons g6 (Tab.Good.cons g10 (Tab.Good.cons g11 (Tab.Good.cons g12 (Tab.Good.cons g8 (Tab.Good.cons g13 (Tab.Good.cons g14 Tab.Good.nil)))))))) 12 Try.func4 rfl (by kernel_rfl) x4 rfl rfl
end Go.Proofs.Yticpdchlknbodaa.XAbsHas

/-
  The trees of tests of the functions that IvlLattice reaches, that each is its code's, and what each function answers.
-/
import Derived.Test.YtaajijommogaoaaSx
import Derived.Test.YtaajijommogaoaaProg
import Derived.Test.YtaajijommogaoaaEIvlLattice
namespace Go.Proofs.Ytaajijommogaoaa.XIvlLattice
open Go.Proofs.Ytaajijommogaoaa.Sx Go.Proofs.Ytaajijommogaoaa.EIvlLattice
set_option maxRecDepth 100000
theorem hm : Try.prog.follows .mixedOrders = true := by kernel_rfl
/-! trammel/ivl.All -/
def s13 : Sig := ⟨[⟨false, [(some .i64)]⟩], [⟨true, [(some .u64), (some .u64)]⟩]⟩
def t13 : Sx.T := (.ite (.cm .eql (.iv 0) (.n 32)) (.ret [(.n 0), (.n 4294967295)] []) (.ret [(.n 0), (.n 18446744073709551615)] []))
def a13 : Tab := []
theorem x13 : sxFn Try.prog (Tab.sig a13) 12 Try.f13 (Try.f13.body.getD .skip) s13 = t13 := by kernel_rfl
def F13 : Sx.Fn := Sx.Fd 1 0 t13 (Tab.fn a13)
theorem g13 : Good Try.prog 13 s13 F13 := good_of_tree hm Tab.Good.nil 12 Try.func13 rfl (by kernel_rfl) x13 rfl rfl
/-! trammel/ivl.Add -/
def s18 : Sig := ⟨[⟨true, [(some .u64), (some .u64)]⟩, ⟨true, [(some .u64), (some .u64)]⟩, ⟨false, [(some .i64)]⟩], [⟨true, [(some .u64), (some .u64)]⟩]⟩
def t18 : Sx.T := (.call (.t true) 27 [(.iv 1), (.iv 3), (.n 0)] [] 2 0 (.call (.nt (.cm .neq (.iv 6) (.n 0))) 13 [(.iv 4)] [] 2 0 (.lb (.oo (.cm .neq (.iv 6) (.n 0)) (.cm .gtr (.iv 5) (.iv 8))) (.ite (.bv 0) (.call (.t true) 13 [(.iv 4)] [] 2 0 (.ret [(.iv 9), (.iv 10)] [])) (.ret [(.ar .add .u64 (.iv 0) (.iv 2)), (.iv 5)] [])))))
def a18 : Tab := [⟨27, s27, F27⟩, ⟨13, s13, F13⟩]
theorem x18 : sxFn Try.prog (Tab.sig a18) 12 Try.f18 (Try.f18.body.getD .skip) s18 = t18 := by kernel_rfl
def F18 : Sx.Fn := Sx.Fd 5 0 t18 (Tab.fn a18)
theorem g18 : Good Try.prog 18 s18 F18 := good_of_tree hm (Tab.Good.cons g27 (Tab.Good.cons g13 Tab.Good.nil)) 12 Try.func18 rfl (by kernel_rfl) x18 rfl rfl
/-! trammel/ivl.Sub -/
def s19 : Sig := ⟨[⟨true, [(some .u64), (some .u64)]⟩, ⟨true, [(some .u64), (some .u64)]⟩, ⟨false, [(some .i64)]⟩], [⟨true, [(some .u64), (some .u64)]⟩]⟩
def t19 : Sx.T := (.ite (.cm .lss (.iv 0) (.iv 3)) (.call (.t true) 13 [(.iv 4)] [] 2 0 (.ret [(.iv 5), (.iv 6)] [])) (.ret [(.ar .sub .u64 (.iv 0) (.iv 3)), (.ar .sub .u64 (.iv 1) (.iv 2))] []))
def a19 : Tab := [⟨13, s13, F13⟩]
theorem x19 : sxFn Try.prog (Tab.sig a19) 12 Try.f19 (Try.f19.body.getD .skip) s19 = t19 := by kernel_rfl
def F19 : Sx.Fn := Sx.Fd 5 0 t19 (Tab.fn a19)
theorem g19 : Good Try.prog 19 s19 F19 := good_of_tree hm (Tab.Good.cons g13 Tab.Good.nil) 12 Try.func19 rfl (by kernel_rfl) x19 rfl rfl
/-! trammel/trammellaw16.awake -/
def s9 : Sig := ⟨[], [⟨false, [none]⟩]⟩
def t9 : Sx.T := (.call (.t true) 18 [(.n 1), (.n 3), (.n 2), (.n 2), (.n 32)] [] 2 0 (.call (.t true) 19 [(.n 1), (.n 3), (.n 2), (.n 2), (.n 32)] [] 2 0 (.lb (.an (.cm .eql (.iv 0) (.n 3)) (.cm .eql (.iv 1) (.n 5))) (.call (.bv 0) 13 [(.n 32)] [] 2 0 (.lb (.an (.cm .eql (.iv 2) (.iv 4)) (.cm .eql (.iv 3) (.iv 5))) (.lb (.an (.an (.bv 0) (.bv 1)) (.cm .eql (.iv 3) (.n 4294967295))) (.ret [] [(.bv 2)])))))))
def a9 : Tab := [⟨18, s18, F18⟩, ⟨19, s19, F19⟩, ⟨13, s13, F13⟩]
theorem x9 : sxFn Try.prog (Tab.sig a9) 12 Try.f9 (Try.f9.body.getD .skip) s9 = t9 := by kernel_rfl
def F9 : Sx.Fn := Sx.Fd 0 0 t9 (Tab.fn a9)
theorem g9 : Good Try.prog 9 s9 F9 := good_of_tree hm (Tab.Good.cons g18 (Tab.Good.cons g19 (Tab.Good.cons g13 Tab.Good.nil))) 12 Try.func9 rfl (by kernel_rfl) x9 rfl rfl
/-! trammel/trammellaw16.put -/
def s10 : Sig := ⟨[⟨false, [(some .u64)]⟩, ⟨false, [(some .u64)]⟩], [⟨true, [(some .u64), (some .u64)]⟩]⟩
def t10 : Sx.T := (.ret [(.mn (.iv 0) (.iv 1)), (.mx (.iv 0) (.iv 1))] [])
def a10 : Tab := []
theorem x10 : sxFn Try.prog (Tab.sig a10) 12 Try.f10 (Try.f10.body.getD .skip) s10 = t10 := by kernel_rfl
def F10 : Sx.Fn := Sx.Fd 2 0 t10 (Tab.fn a10)
theorem g10 : Good Try.prog 10 s10 F10 := good_of_tree hm Tab.Good.nil 12 Try.func10 rfl (by kernel_rfl) x10 rfl rfl
/-! trammel/ivl.Join -/
def s12 : Sig := ⟨[⟨true, [(some .u64), (some .u64)]⟩, ⟨true, [(some .u64), (some .u64)]⟩], [⟨true, [(some .u64), (some .u64)]⟩]⟩
def t12 : Sx.T := (.ret [(.mn (.iv 0) (.iv 2)), (.mx (.iv 1) (.iv 3))] [])
def a12 : Tab := []
theorem x12 : sxFn Try.prog (Tab.sig a12) 12 Try.f12 (Try.f12.body.getD .skip) s12 = t12 := by kernel_rfl
def F12 : Sx.Fn := Sx.Fd 4 0 t12 (Tab.fn a12)
theorem g12 : Good Try.prog 12 s12 F12 := good_of_tree hm Tab.Good.nil 12 Try.func12 rfl (by kernel_rfl) x12 rfl rfl
/-! trammel/ivl.Right -/
def s17 : Sig := ⟨[⟨true, [(some .u64), (some .u64)]⟩], [⟨false, [none]⟩]⟩
def t17 : Sx.T := (.ret [] [(.cm .leq (.iv 0) (.iv 1))])
def a17 : Tab := []
theorem x17 : sxFn Try.prog (Tab.sig a17) 12 Try.f17 (Try.f17.body.getD .skip) s17 = t17 := by kernel_rfl
def F17 : Sx.Fn := Sx.Fd 2 0 t17 (Tab.fn a17)
theorem g17 : Good Try.prog 17 s17 F17 := good_of_tree hm Tab.Good.nil 12 Try.func17 rfl (by kernel_rfl) x17 rfl rfl
/-! trammel/ivl.Meet -/
def s15 : Sig := ⟨[⟨true, [(some .u64), (some .u64)]⟩, ⟨true, [(some .u64), (some .u64)]⟩], [⟨true, [(some .u64), (some .u64)]⟩, ⟨false, [none]⟩]⟩
def t15 : Sx.T := (.call (.t true) 17 [(.mx (.iv 0) (.iv 2)), (.mn (.iv 1) (.iv 3))] [] 0 1 (.ite (.nt (.bv 0)) (.ret [(.n 0), (.n 0)] [(.t false)]) (.ret [(.mx (.iv 0) (.iv 2)), (.mn (.iv 1) (.iv 3))] [(.t true)])))
def a15 : Tab := [⟨17, s17, F17⟩]
theorem x15 : sxFn Try.prog (Tab.sig a15) 12 Try.f15 (Try.f15.body.getD .skip) s15 = t15 := by kernel_rfl
def F15 : Sx.Fn := Sx.Fd 4 0 t15 (Tab.fn a15)
theorem g15 : Good Try.prog 15 s15 F15 := good_of_tree hm (Tab.Good.cons g17 Tab.Good.nil) 12 Try.func15 rfl (by kernel_rfl) x15 rfl rfl
/-! trammel/ivl.Has -/
def s16 : Sig := ⟨[⟨true, [(some .u64), (some .u64)]⟩, ⟨false, [(some .u64)]⟩], [⟨false, [none]⟩]⟩
def t16 : Sx.T := (.lb (.an (.cm .leq (.iv 0) (.iv 2)) (.cm .leq (.iv 2) (.iv 1))) (.ret [] [(.bv 0)]))
def a16 : Tab := []
theorem x16 : sxFn Try.prog (Tab.sig a16) 12 Try.f16 (Try.f16.body.getD .skip) s16 = t16 := by kernel_rfl
def F16 : Sx.Fn := Sx.Fd 3 0 t16 (Tab.fn a16)
theorem g16 : Good Try.prog 16 s16 F16 := good_of_tree hm Tab.Good.nil 12 Try.func16 rfl (by kernel_rfl) x16 rfl rfl
/-! trammel/ivl.Within -/
def s11 : Sig := ⟨[⟨true, [(some .u64), (some .u64)]⟩, ⟨true, [(some .u64), (some .u64)]⟩], [⟨false, [none]⟩]⟩
def t11 : Sx.T := (.lb (.an (.cm .leq (.iv 2) (.iv 0)) (.cm .leq (.iv 1) (.iv 3))) (.ret [] [(.bv 0)]))
def a11 : Tab := []
theorem x11 : sxFn Try.prog (Tab.sig a11) 12 Try.f11 (Try.f11.body.getD .skip) s11 = t11 := by kernel_rfl
def F11 : Sx.Fn := Sx.Fd 4 0 t11 (Tab.fn a11)
theorem g11 : Good Try.prog 11 s11 F11 := good_of_tree hm Tab.Good.nil 12 Try.func11 rfl (by kernel_rfl) x11 rfl rfl
/-! trammel/trammellaw16.IvlLattice -/
def s5 : Sig := ⟨[⟨false, [(some .u64)]⟩, ⟨false, [(some .u64)]⟩, ⟨false, [(some .u64)]⟩, ⟨false, [(some .u64)]⟩, ⟨false, [(some .u64)]⟩], [⟨false, [none]⟩]⟩
def t5 : Sx.T := (.call (.t true) 9 [] [] 0 1 (.ite (.nt (.bv 0)) (.ret [] [(.t false)]) (.call (.t true) 10 [(.iv 0), (.iv 1)] [] 2 0 (.call (.t true) 10 [(.iv 2), (.iv 3)] [] 2 0 (.call (.t true) 12 [(.iv 5), (.iv 6), (.iv 7), (.iv 8)] [] 2 0 (.call (.t true) 15 [(.iv 5), (.iv 6), (.iv 7), (.iv 8)] [] 2 1 (.lb (.an (.cm .neq (.iv 0) (.iv 1)) (.cm .geq (.iv 4) (.iv 5))) (.lb (.oo (.an (.bv 2) (.cm .leq (.iv 4) (.iv 6))) (.cm .eql (.iv 4) (.iv 0))) (.lb (.an (.cm .geq (.iv 4) (.iv 7)) (.cm .leq (.iv 4) (.iv 8))) (.call (.t true) 16 [(.iv 5), (.iv 6), (.iv 4)] [] 0 1 (.lb (.nt (.be (.bv 5) (.oo (.bv 3) (.cm .eql (.iv 4) (.iv 1))))) (.call (.nt (.bv 6)) 16 [(.iv 7), (.iv 8), (.iv 4)] [] 0 1 (.lb (.oo (.oo (.bv 3) (.cm .eql (.iv 4) (.iv 1))) (.bv 4)) (.call (.an (.nt (.oo (.bv 6) (.nt (.be (.bv 7) (.bv 4))))) (.bv 8)) 16 [(.iv 9), (.iv 10), (.iv 4)] [] 0 1 (.lb (.oo (.oo (.bv 6) (.nt (.be (.bv 7) (.bv 4)))) (.an (.bv 8) (.nt (.bv 9)))) (.ite (.bv 10) (.ret [] [(.t false)]) (.call (.bv 1) 16 [(.iv 11), (.iv 12), (.iv 4)] [] 0 1 (.lb (.an (.oo (.bv 3) (.cm .eql (.iv 4) (.iv 1))) (.bv 4)) (.lb (.an (.oo (.bv 3) (.cm .eql (.iv 4) (.iv 1))) (.bv 4)) (.lb (.nt (.an (.cm .eql (.iv 11) (.n 0)) (.cm .eql (.iv 12) (.n 0)))) (.lb (.oo (.an (.bv 1) (.nt (.be (.bv 11) (.bv 12)))) (.an (.nt (.bv 1)) (.oo (.bv 13) (.bv 14)))) (.ite (.bv 15) (.ret [] [(.t false)]) (.call (.t true) 11 [(.iv 5), (.iv 6), (.iv 7), (.iv 8)] [] 0 1 (.call (.t true) 16 [(.iv 7), (.iv 8), (.iv 5)] [] 0 1 (.call (.bv 17) 16 [(.iv 7), (.iv 8), (.iv 6)] [] 0 1 (.call (.be (.bv 16) (.an (.bv 17) (.bv 18))) 11 [(.iv 5), (.iv 6), (.iv 9), (.iv 10)] [] 0 1 (.lb (.oo (.nt (.be (.bv 16) (.an (.bv 17) (.bv 18)))) (.nt (.bv 19))) (.call (.nt (.bv 20)) 11 [(.iv 7), (.iv 8), (.iv 9), (.iv 10)] [] 0 1 (.call (.nt (.oo (.bv 20) (.nt (.bv 21)))) 11 [(.iv 5), (.iv 6), (.iv 7), (.iv 8)] [] 0 1 (.lb (.nt (.an (.cm .eql (.iv 9) (.iv 7)) (.cm .eql (.iv 10) (.iv 8)))) (.lb (.oo (.oo (.bv 20) (.nt (.bv 21))) (.an (.bv 22) (.bv 23))) (.ite (.bv 24) (.ret [] [(.t false)]) (.call (.t true) 17 [(.iv 0), (.iv 1)] [] 0 1 (.call (.be (.bv 25) (.cm .leq (.iv 0) (.iv 1))) 17 [(.iv 9), (.iv 10)] [] 0 1 (.lb (.an (.be (.bv 25) (.cm .leq (.iv 0) (.iv 1))) (.bv 26)) (.call (.bv 27) 12 [(.iv 7), (.iv 8), (.iv 5), (.iv 6)] [] 2 0 (.lb (.an (.cm .eql (.iv 13) (.iv 9)) (.cm .eql (.iv 14) (.iv 10))) (.call (.an (.an (.bv 27) (.bv 28)) (.bv 1)) 17 [(.iv 11), (.iv 12)] [] 0 1 (.call (.an (.an (.an (.bv 27) (.bv 28)) (.bv 1)) (.bv 29)) 11 [(.iv 11), (.iv 12), (.iv 5), (.iv 6)] [] 0 1 (.call (.an (.an (.an (.bv 27) (.bv 28)) (.bv 1)) (.an (.bv 29) (.bv 30))) 11 [(.iv 11), (.iv 12), (.iv 7), (.iv 8)] [] 0 1 (.lb (.oo (.nt (.bv 1)) (.an (.an (.bv 29) (.bv 30)) (.bv 31))) (.ret [] [(.an (.an (.bv 27) (.bv 28)) (.bv 32))]))))))))))))))))))))))))))))))))))))))))))
def a5 : Tab := [⟨9, s9, F9⟩, ⟨10, s10, F10⟩, ⟨12, s12, F12⟩, ⟨15, s15, F15⟩, ⟨16, s16, F16⟩, ⟨11, s11, F11⟩, ⟨17, s17, F17⟩]
theorem x5 : sxFn Try.prog (Tab.sig a5) 12 Try.f5 (Try.f5.body.getD .skip) s5 = t5 := by kernel_rfl
def F5 : Sx.Fn := Sx.Fd 5 0 t5 (Tab.fn a5)
theorem g5 : Good Try.prog 5 s5 F5 := good_of_tree hm (Tab.Good.cons g9 (Tab.Good.cons g10 (Tab.Good.cons g12 (Tab.Good.cons g15 (Tab.Good.cons g16 (Tab.Good.cons g11 (Tab.Good.cons g17 Tab.Good.nil))))))) 12 Try.func5 rfl (by kernel_rfl) x5 rfl rfl
end Go.Proofs.Ytaajijommogaoaa.XIvlLattice

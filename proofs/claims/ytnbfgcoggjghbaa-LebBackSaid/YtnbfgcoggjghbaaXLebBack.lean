/-
  The trees of tests of the functions that LebBack reaches, that each is its code's, and what each function answers.
-/
import Derived.Test.YtnbfgcoggjghbaaVx
import Derived.Test.YtnbfgcoggjghbaaProg
namespace Go.Proofs.Ytnbfgcoggjghbaa.XLebBack
open Go.Proofs.Ytnbfgcoggjghbaa.Vx
set_option maxRecDepth 100000
def True_ : World → Prop := fun _ => True
theorem hI : ∀ (M : Nat → Prop) (w w' : World), True_ w → Vx.Bel M w w' → True_ w' := fun _ _ _ _ _ => trivial
theorem hm : Try.prog.follows .mixedOrders = true := by kernel_rfl
def hs : List (Nat × Hint) := []
/-! trammel/leb.most -/
def s23 : Sig := ⟨[(.v (.i .i64))], [(.v (.i .i64))]⟩
def H23 : Hint := ⟨[], [], [], 12, false⟩
def t23 : Vx.T := (.ret [(.ar .quo .i64 (.ar .add .i64 (.iv 0) (.n 6)) (.n 7))] [] [])
def a23 : Tab := []
theorem x23 : sxFn Try.prog (Tab.sig a23) (inlN Try.prog (Tab.sig a23) (hintOf hs) 6) H23 Try.f23 (Try.f23.body.getD .skip) s23 = t23 := by kernel_rfl
def F23 : Vx.Fn := Vx.Fd t23 (Tab.fn a23)
theorem g23 : Vx.Good Try.prog True_ 23 s23 F23 := good_of_tree hm hI Tab.Good.nil H23 hs 6 Try.func23 rfl (by kernel_rfl) x23
/-! trammel/leb.raw -/
def s20 : Sig := ⟨[(.v (.lf [(.i .u8)])), (.v (.i .i64))], [(.v (.i .u64)), (.v (.i .u8)), (.v (.i .i64)), (.v (.i .i64))]⟩
def H20 : Hint := ⟨[], [(6, some ⟨[(4, false, [.i .u64]), (5, false, [.i .u8]), (6, false, [.i .i64]), (7, false, [.i .i64]), (8, false, [.i .u64]), (19, false, [.i .i64])], [], [], [9, 10, 20, 21, 22, 23, 24, 25, 26, 27, 28, 29, 30, 31, 32, 33, 34, 35, 36, 37, 38, 39, 40, 41, 42, 43, 44], [], []⟩)], [], 12, false⟩
def l20_1 : Vx.T := (.ite (.cm .lss (.iv 6) (.ln 0)) (.rq (.cm .geq (.iv 6) (.n 0)) (.rq (.cm .geq (.cv .u64 (.ar .mul .i64 (.n 7) (.iv 6))) (.n 0)) (.li (.ar .shl .u64 (.cv .u64 (.ar .and .u8 (.ix 0 (.iv 6) 0) (.n 127))) (.cv .u64 (.ar .mul .i64 (.n 7) (.iv 6)))) (.ite (.cm .lss (.ix 0 (.iv 6) 0) (.n 128)) (.rt (.ret [(.ar .or .u64 (.iv 5) (.iv 7)), (.ix 0 (.iv 6) 0), (.ar .add .i64 (.iv 6) (.n 1)), (.n 0)] [] [])) (.call 23 [(.iv 0)] [] [] 1 0 0 (.ite (.cm .eql (.ar .add .i64 (.iv 6) (.n 1)) (.iv 8)) (.rt (.ret [(.n 0), (.n 0), (.n 0), (.n 2)] [] [])) (.nxt [(.iv 1), (.iv 2), (.iv 3), (.iv 4), (.ar .or .u64 (.iv 5) (.iv 7)), (.ar .add .i64 (.iv 6) (.n 1))] [] []))))))) (.brk 2 [(.iv 1), (.iv 2), (.iv 3), (.iv 4), (.iv 5), (.iv 6)] [] []))
def k20_2 : Vx.T := (.rq (.cm .eql (.iv 1) (.n 2)) (.ret [(.n 0), (.n 0), (.n 0), (.n 1)] [] []))
def t20 : Vx.T := (.lb (.oo (.cm .lss (.iv 0) (.n 1)) (.cm .gtr (.iv 0) (.n 64))) (.ite (.bv 0) (.ret [(.n 0), (.n 0), (.n 0), (.n 5)] [] []) (.lp [(.n 0), (.n 0), (.n 0), (.n 0), (.n 0), (.n 0)] [] [] 6 0 0 l20_1 k20_2)))
def a20 : Tab := [⟨23, s23, F23⟩]
theorem x20 : sxFn Try.prog (Tab.sig a20) (inlN Try.prog (Tab.sig a20) (hintOf hs) 6) H20 Try.f20 (Try.f20.body.getD .skip) s20 = t20 := by kernel_rfl
theorem e20_23 : Tab.fn a20 23 = F23 := rfl
def F20 : Vx.Fn := Vx.Fd t20 (Tab.fn a20)
theorem g20 : Vx.Good Try.prog True_ 20 s20 F20 := good_of_tree hm hI (Tab.Good.cons g23 Tab.Good.nil) H20 hs 6 Try.func20 rfl (by kernel_rfl) x20
/-! trammel/leb.U -/
def s10 : Sig := ⟨[(.v (.lf [(.i .u8)])), (.v (.i .i64))], [(.v (.i .u64)), (.v (.i .i64)), (.v (.i .i64))]⟩
def H10 : Hint := ⟨[], [], [], 12, false⟩
def t10 : Vx.T := (.call 20 [(.iv 0)] [] [(.v 0)] 4 0 0 (.ite (.cm .neq (.iv 4) (.n 0)) (.ret [(.n 0), (.n 0), (.iv 4)] [] []) (.li (.ar .sub .i64 (.iv 0) (.ar .mul .i64 (.n 7) (.ar .sub .i64 (.iv 3) (.n 1)))) (.rq (.oo (.nt (.cm .lss (.iv 5) (.n 7))) (.cm .geq (.cv .u64 (.iv 5)) (.n 0))) (.lb (.an (.cm .lss (.iv 5) (.n 7)) (.cm .neq (.ar .shr .u8 (.iv 2) (.cv .u64 (.iv 5))) (.n 0))) (.ite (.bv 0) (.ret [(.n 0), (.n 0), (.n 2)] [] []) (.ret [(.iv 1), (.iv 3), (.n 0)] [] [])))))))
def a10 : Tab := [⟨20, s20, F20⟩]
theorem x10 : sxFn Try.prog (Tab.sig a10) (inlN Try.prog (Tab.sig a10) (hintOf hs) 6) H10 Try.f10 (Try.f10.body.getD .skip) s10 = t10 := by kernel_rfl
theorem e10_20 : Tab.fn a10 20 = F20 := rfl
def F10 : Vx.Fn := Vx.Fd t10 (Tab.fn a10)
theorem g10 : Vx.Good Try.prog True_ 10 s10 F10 := good_of_tree hm hI (Tab.Good.cons g20 Tab.Good.nil) H10 hs 6 Try.func10 rfl (by kernel_rfl) x10
/-! trammel/leb.S -/
def s12 : Sig := ⟨[(.v (.lf [(.i .u8)])), (.v (.i .i64))], [(.v (.i .i64)), (.v (.i .i64)), (.v (.i .i64))]⟩
def H12 : Hint := ⟨[], [], [], 12, false⟩
def t12 : Vx.T := (.call 20 [(.iv 0)] [] [(.v 0)] 4 0 0 (.ite (.cm .neq (.iv 4) (.n 0)) (.ret [(.n 0), (.n 0), (.iv 4)] [] []) (.li (.ar .sub .i64 (.iv 0) (.ar .mul .i64 (.n 7) (.ar .sub .i64 (.iv 3) (.n 1)))) (.ite (.cm .lss (.iv 5) (.n 7)) (.rq (.cm .geq (.cv .u64 (.ar .sub .i64 (.iv 5) (.n 1))) (.n 0)) (.lb (.cm .neq (.ar .shr .u8 (.iv 2) (.cv .u64 (.ar .sub .i64 (.iv 5) (.n 1)))) (.n 0)) (.rq (.oo (.nt (.bv 0)) (.cm .geq (.cv .u64 (.ar .sub .i64 (.iv 5) (.n 1))) (.n 0))) (.lb (.cm .neq (.ar .shr .u8 (.iv 2) (.cv .u64 (.ar .sub .i64 (.iv 5) (.n 1)))) (.ar .shr .u8 (.n 127) (.cv .u64 (.ar .sub .i64 (.iv 5) (.n 1))))) (.ite (.an (.bv 0) (.bv 1)) (.ret [(.n 0), (.n 0), (.n 2)] [] []) (.lb (.an (.cm .lss (.ar .mul .i64 (.n 7) (.iv 3)) (.n 64)) (.cm .neq (.ar .and .u8 (.iv 2) (.n 64)) (.n 0))) (.ite (.bv 2) (.rq (.cm .geq (.cv .u64 (.ar .mul .i64 (.n 7) (.iv 3))) (.n 0)) (.li (.ar .or .u64 (.iv 1) (.ar .shl .u64 (.n 18446744073709551615) (.cv .u64 (.ar .mul .i64 (.n 7) (.iv 3))))) (.ret [(.cv .i64 (.iv 6)), (.iv 3), (.n 0)] [] []))) (.ret [(.cv .i64 (.iv 1)), (.iv 3), (.n 0)] [] [])))))))) (.lb (.an (.cm .lss (.ar .mul .i64 (.n 7) (.iv 3)) (.n 64)) (.cm .neq (.ar .and .u8 (.iv 2) (.n 64)) (.n 0))) (.ite (.bv 0) (.rq (.cm .geq (.cv .u64 (.ar .mul .i64 (.n 7) (.iv 3))) (.n 0)) (.li (.ar .or .u64 (.iv 1) (.ar .shl .u64 (.n 18446744073709551615) (.cv .u64 (.ar .mul .i64 (.n 7) (.iv 3))))) (.ret [(.cv .i64 (.iv 6)), (.iv 3), (.n 0)] [] []))) (.ret [(.cv .i64 (.iv 1)), (.iv 3), (.n 0)] [] [])))))))
def a12 : Tab := [⟨20, s20, F20⟩]
theorem x12 : sxFn Try.prog (Tab.sig a12) (inlN Try.prog (Tab.sig a12) (hintOf hs) 6) H12 Try.f12 (Try.f12.body.getD .skip) s12 = t12 := by kernel_rfl
theorem e12_20 : Tab.fn a12 20 = F20 := rfl
def F12 : Vx.Fn := Vx.Fd t12 (Tab.fn a12)
theorem g12 : Vx.Good Try.prog True_ 12 s12 F12 := good_of_tree hm hI (Tab.Good.cons g20 Tab.Good.nil) H12 hs 6 Try.func12 rfl (by kernel_rfl) x12
/-! trammel/trammellaw01.awake -/
def s9 : Sig := ⟨[], [(.v .b)]⟩
def H9 : Hint := ⟨[], [], [], 12, false⟩
def t9 : Vx.T := (.lst [(.els [[(.i (.n 229))], [(.i (.n 142))], [(.i (.n 38))], [(.i (.n 9))]])] (.call 10 [(.n 32)] [] [(.v 0)] 3 0 0 (.lst [(.els [[(.i (.n 192))], [(.i (.n 187))], [(.i (.n 120))]])] (.call 12 [(.n 32)] [] [(.v 1)] 3 0 0 (.lb (.an (.cm .eql (.iv 2) (.n 0)) (.cm .eql (.iv 0) (.n 624485))) (.lb (.an (.an (.bv 0) (.cm .eql (.iv 1) (.n 3))) (.cm .eql (.iv 5) (.n 0))) (.lb (.an (.an (.bv 1) (.cm .eql (.iv 3) (.n (-123456)))) (.cm .eql (.iv 4) (.n 3))) (.ret [] [(.bv 2)] []))))))))
def a9 : Tab := [⟨10, s10, F10⟩, ⟨12, s12, F12⟩]
theorem x9 : sxFn Try.prog (Tab.sig a9) (inlN Try.prog (Tab.sig a9) (hintOf hs) 6) H9 Try.f9 (Try.f9.body.getD .skip) s9 = t9 := by kernel_rfl
theorem e9_10 : Tab.fn a9 10 = F10 := rfl
theorem e9_12 : Tab.fn a9 12 = F12 := rfl
def F9 : Vx.Fn := Vx.Fd t9 (Tab.fn a9)
theorem g9 : Vx.Good Try.prog True_ 9 s9 F9 := good_of_tree hm hI (Tab.Good.cons g10 (Tab.Good.cons g12 Tab.Good.nil)) H9 hs 6 Try.func9 rfl (by kernel_rfl) x9
/-! slices.Clone[[]byte,byte] -/
def s22 : Sig := ⟨[(.v (.lf [(.i .u8)]))], [(.v (.lo 5 [(.i .u8)]))]⟩
def H22 : Hint := ⟨[], [], [], 12, false⟩
def t22 : Vx.T := (.nz 0 (.ret [] [] [.nil]) (.lst [(.els [])] (.rq (.an (.cm .leq (.ln 1) (.n 17592186044416)) (.cm .leq (.ln 0) (.n 17592186044416))) (.lst [(.ap (.v 1) (.v 0))] (.ret [] [] [(.v 2)])))))
def a22 : Tab := []
theorem x22 : sxFn Try.prog (Tab.sig a22) (inlN Try.prog (Tab.sig a22) (hintOf hs) 6) H22 Try.f22 (Try.f22.body.getD .skip) s22 = t22 := by kernel_rfl
def F22 : Vx.Fn := Vx.Fd t22 (Tab.fn a22)
theorem g22 : Vx.Good Try.prog True_ 22 s22 F22 := good_of_tree hm hI Tab.Good.nil H22 hs 6 Try.func22 rfl (by kernel_rfl) x22
/-! trammel/leb.PutU -/
def s15 : Sig := ⟨[(.v (.lf [(.i .u8)])), (.v (.i .u64))], [(.v (.lo 5 [(.i .u8)]))]⟩
def H15 : Hint := ⟨[], [(3, some ⟨[(1, false, [.i .u64]), (5, false, [.lo 5 [(.i .u8)]])], [], [], [8, 9, 10, 11, 12, 13, 14, 15, 16, 17], [], [1]⟩)], [], 12, false⟩
def l15_1 : Vx.T := (.ite (.cm .geq (.iv 1) (.n 128)) (.lst [(.els [[(.i (.ar .or .u8 (.cv .u8 (.iv 1)) (.n 128)))]])] (.rq (.an (.cm .leq (.ln 2) (.n 17592186044416)) (.cm .leq (.ln 3) (.n 17592186044416))) (.lst [(.ap (.v 2) (.v 3))] (.nxt [(.ar .shr .u64 (.iv 1) (.n 7))] [] [(.v 4)])))) (.brk 2 [(.iv 1)] [] [(.v 2)]))
def k15_2 : Vx.T := (.rq (.cm .eql (.iv 1) (.n 2)) (.lst [(.els [[(.i (.cv .u8 (.iv 2)))]])] (.rq (.an (.cm .leq (.ln 2) (.n 17592186044416)) (.cm .leq (.ln 3) (.n 17592186044416))) (.lst [(.ap (.v 2) (.v 3))] (.ret [] [] [(.v 4)])))))
def t15 : Vx.T := (.call 22 [] [] [(.v 0)] 0 0 1 (.lp [(.iv 0)] [] [(.v 1)] 1 0 1 l15_1 k15_2))
def a15 : Tab := [⟨22, s22, F22⟩]
theorem x15 : sxFn Try.prog (Tab.sig a15) (inlN Try.prog (Tab.sig a15) (hintOf hs) 6) H15 Try.f15 (Try.f15.body.getD .skip) s15 = t15 := by kernel_rfl
theorem e15_22 : Tab.fn a15 22 = F22 := rfl
def F15 : Vx.Fn := Vx.Fd t15 (Tab.fn a15)
theorem g15 : Vx.Good Try.prog True_ 15 s15 F15 := good_of_tree hm hI (Tab.Good.cons g22 Tab.Good.nil) H15 hs 6 Try.func15 rfl (by kernel_rfl) x15
/-! trammel/leb.PutS -/
def s16 : Sig := ⟨[(.v (.lf [(.i .u8)])), (.v (.i .i64))], [(.v (.lo 5 [(.i .u8)]))]⟩
def H16 : Hint := ⟨[], [(3, some ⟨[(1, false, [.i .i64]), (5, false, [.lo 5 [(.i .u8)]])], [], [], [8, 9, 10, 11, 12, 13, 14, 15, 16, 17, 18, 19, 20, 21], [], [1]⟩)], [], 12, false⟩
def l16_1 : Vx.T := (.lb (.oo (.cm .lss (.iv 1) (.n (-64))) (.cm .gtr (.iv 1) (.n 63))) (.ite (.bv 0) (.lst [(.els [[(.i (.ar .or .u8 (.cv .u8 (.iv 1)) (.n 128)))]])] (.rq (.an (.cm .leq (.ln 2) (.n 17592186044416)) (.cm .leq (.ln 3) (.n 17592186044416))) (.lst [(.ap (.v 2) (.v 3))] (.nxt [(.ar .shr .i64 (.iv 1) (.n 7))] [] [(.v 4)])))) (.brk 2 [(.iv 1)] [] [(.v 2)])))
def k16_2 : Vx.T := (.rq (.cm .eql (.iv 1) (.n 2)) (.lst [(.els [[(.i (.ar .and .u8 (.cv .u8 (.iv 2)) (.n 127)))]])] (.rq (.an (.cm .leq (.ln 2) (.n 17592186044416)) (.cm .leq (.ln 3) (.n 17592186044416))) (.lst [(.ap (.v 2) (.v 3))] (.ret [] [] [(.v 4)])))))
def t16 : Vx.T := (.call 22 [] [] [(.v 0)] 0 0 1 (.lp [(.iv 0)] [] [(.v 1)] 1 0 1 l16_1 k16_2))
def a16 : Tab := [⟨22, s22, F22⟩]
theorem x16 : sxFn Try.prog (Tab.sig a16) (inlN Try.prog (Tab.sig a16) (hintOf hs) 6) H16 Try.f16 (Try.f16.body.getD .skip) s16 = t16 := by kernel_rfl
theorem e16_22 : Tab.fn a16 22 = F22 := rfl
def F16 : Vx.Fn := Vx.Fd t16 (Tab.fn a16)
theorem g16 : Vx.Good Try.prog True_ 16 s16 F16 := good_of_tree hm hI (Tab.Good.cons g22 Tab.Good.nil) H16 hs 6 Try.func16 rfl (by kernel_rfl) x16
/-! trammel/trammellaw01.LebBack -/
def s6 : Sig := ⟨[(.v (.i .u64)), (.v (.i .i64)), (.v (.i .i64)), (.v (.lf [(.i .u8)]))], [(.v .b)]⟩
def H6 : Hint := ⟨[], [], [], 12, false⟩
def t6 : Vx.T := (.call 9 [] [] [] 0 1 0 (.ite (.nt (.bv 0)) (.ret [] [(.t false)] []) (.rq (.an (.cm .leq (.n 0) (.mn (.ln 0) (.n 1000))) (.cm .leq (.mn (.ln 0) (.n 1000)) (.ln 0))) (.lst [(.cut (.v 0) (.n 0) (.mn (.ln 0) (.n 1000)))] (.lb (.oo (.cm .lss (.iv 2) (.n 1)) (.cm .gtr (.iv 2) (.n 64))) (.ite (.bv 1) (.ret [] [(.t true)] []) (.rq (.oo (.cm .eql (.iv 2) (.n 64)) (.cm .geq (.cv .u64 (.iv 2)) (.n 0))) (.lb (.oo (.cm .eql (.iv 2) (.n 64)) (.cm .eql (.ar .shr .u64 (.iv 0) (.cv .u64 (.iv 2))) (.n 0))) (.ite (.bv 2) (.call 15 [(.iv 0)] [] [.nil] 0 0 1 (.rq (.an (.cm .leq (.ln 2) (.n 17592186044416)) (.cm .leq (.ln 1) (.n 17592186044416))) (.lst [(.ap (.v 2) (.v 1))] (.call 10 [(.iv 2)] [] [(.v 3)] 3 0 0 (.lb (.oo (.cm .neq (.iv 5) (.n 0)) (.cm .neq (.iv 3) (.iv 0))) (.ite (.oo (.bv 3) (.cm .neq (.iv 4) (.ln 2))) (.ret [] [(.t false)] []) (.rq (.cm .geq (.cv .u64 (.ar .sub .i64 (.n 64) (.iv 2))) (.n 0)) (.li (.ar .shr .i64 (.ar .shl .i64 (.iv 1) (.cv .u64 (.ar .sub .i64 (.n 64) (.iv 2)))) (.cv .u64 (.ar .sub .i64 (.n 64) (.iv 2)))) (.ite (.cm .eql (.iv 6) (.iv 1)) (.call 16 [(.iv 1)] [] [.nil] 0 0 1 (.rq (.an (.cm .leq (.ln 4) (.n 17592186044416)) (.cm .leq (.ln 1) (.n 17592186044416))) (.lst [(.ap (.v 4) (.v 1))] (.call 12 [(.iv 2)] [] [(.v 5)] 3 0 0 (.lb (.oo (.cm .neq (.iv 9) (.n 0)) (.cm .neq (.iv 7) (.iv 1))) (.ite (.oo (.bv 4) (.cm .neq (.iv 8) (.ln 4))) (.ret [] [(.t false)] []) (.ret [] [(.t true)] []))))))) (.ret [] [(.t true)] [])))))))))) (.rq (.cm .geq (.cv .u64 (.ar .sub .i64 (.n 64) (.iv 2))) (.n 0)) (.li (.ar .shr .i64 (.ar .shl .i64 (.iv 1) (.cv .u64 (.ar .sub .i64 (.n 64) (.iv 2)))) (.cv .u64 (.ar .sub .i64 (.n 64) (.iv 2)))) (.ite (.cm .eql (.iv 3) (.iv 1)) (.call 16 [(.iv 1)] [] [.nil] 0 0 1 (.rq (.an (.cm .leq (.ln 2) (.n 17592186044416)) (.cm .leq (.ln 1) (.n 17592186044416))) (.lst [(.ap (.v 2) (.v 1))] (.call 12 [(.iv 2)] [] [(.v 3)] 3 0 0 (.lb (.oo (.cm .neq (.iv 6) (.n 0)) (.cm .neq (.iv 4) (.iv 1))) (.ite (.oo (.bv 3) (.cm .neq (.iv 5) (.ln 2))) (.ret [] [(.t false)] []) (.ret [] [(.t true)] []))))))) (.ret [] [(.t true)] [])))))))))))))
def a6 : Tab := [⟨9, s9, F9⟩, ⟨15, s15, F15⟩, ⟨10, s10, F10⟩, ⟨16, s16, F16⟩, ⟨12, s12, F12⟩]
theorem x6 : sxFn Try.prog (Tab.sig a6) (inlN Try.prog (Tab.sig a6) (hintOf hs) 6) H6 Try.f6 (Try.f6.body.getD .skip) s6 = t6 := by kernel_rfl
theorem e6_9 : Tab.fn a6 9 = F9 := rfl
theorem e6_15 : Tab.fn a6 15 = F15 := rfl
theorem e6_10 : Tab.fn a6 10 = F10 := rfl
theorem e6_16 : Tab.fn a6 16 = F16 := rfl
theorem e6_12 : Tab.fn a6 12 = F12 := rfl
def F6 : Vx.Fn := Vx.Fd t6 (Tab.fn a6)
theorem g6 : Vx.Good Try.prog True_ 6 s6 F6 := good_of_tree hm hI (Tab.Good.cons g9 (Tab.Good.cons g15 (Tab.Good.cons g10 (Tab.Good.cons g16 (Tab.Good.cons g12 Tab.Good.nil))))) H6 hs 6 Try.func6 rfl (by kernel_rfl) x6
end Go.Proofs.Ytnbfgcoggjghbaa.XLebBack

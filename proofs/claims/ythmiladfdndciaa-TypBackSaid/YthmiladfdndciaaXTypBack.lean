/-
  The trees of tests of the functions that TypBack reaches, that each is its code's, and what each function answers.
-/
import Derived.Test.YthmiladfdndciaaVx
import Derived.Test.YthmiladfdndciaaProg
namespace Go.Proofs.Ythmiladfdndciaa.XTypBack
open Go.Proofs.Ythmiladfdndciaa.Vx
set_option maxRecDepth 100000
def True_ : World → Prop := fun _ => True
theorem hI : ∀ (M : Nat → Prop) (w w' : World), True_ w → Vx.Bel M w w' → True_ w' := fun _ _ _ _ _ => trivial
theorem hm : Try.prog.follows .mixedOrders = true := by kernel_rfl
def hs : List (Nat × Hint) := []
/-! trammel/leb.most -/
def s44 : Sig := ⟨[(.v (.i .i64))], [(.v (.i .i64))]⟩
def H44 : Hint := ⟨[], [], [], 12, false⟩
def t44 : Vx.T := (.ret [(.ar .quo .i64 (.ar .add .i64 (.iv 0) (.n 6)) (.n 7))] [] [])
def a44 : Tab := []
theorem x44 : sxFn Try.prog (Tab.sig a44) (inlN Try.prog (Tab.sig a44) (hintOf hs) 6) H44 Try.f44 (Try.f44.body.getD .skip) s44 = t44 := by kernel_rfl
def F44 : Vx.Fn := Vx.Fd t44 (Tab.fn a44)
theorem g44 : Vx.Good Try.prog True_ 44 s44 F44 := good_of_tree hm hI Tab.Good.nil H44 hs 6 Try.func44 rfl (by kernel_rfl) x44
/-! trammel/leb.raw -/
def s42 : Sig := ⟨[(.v (.lf [(.i .u8)])), (.v (.i .i64))], [(.v (.i .u64)), (.v (.i .u8)), (.v (.i .i64)), (.v (.i .i64))]⟩
def H42 : Hint := ⟨[], [(6, some ⟨[(4, false, [.i .u64]), (5, false, [.i .u8]), (6, false, [.i .i64]), (7, false, [.i .i64]), (8, false, [.i .u64]), (19, false, [.i .i64])], [], [], [9, 10, 20, 21, 22, 23, 24, 25, 26, 27, 28, 29, 30, 31, 32, 33, 34, 35, 36, 37, 38, 39, 40, 41, 42, 43, 44], [], []⟩)], [], 12, false⟩
def l42_1 : Vx.T := (.ite (.cm .lss (.iv 6) (.ln 0)) (.rq (.cm .geq (.iv 6) (.n 0)) (.rq (.cm .geq (.cv .u64 (.ar .mul .i64 (.n 7) (.iv 6))) (.n 0)) (.li (.ar .shl .u64 (.cv .u64 (.ar .and .u8 (.ix 0 (.iv 6) 0) (.n 127))) (.cv .u64 (.ar .mul .i64 (.n 7) (.iv 6)))) (.ite (.cm .lss (.ix 0 (.iv 6) 0) (.n 128)) (.rt (.ret [(.ar .or .u64 (.iv 5) (.iv 7)), (.ix 0 (.iv 6) 0), (.ar .add .i64 (.iv 6) (.n 1)), (.n 0)] [] [])) (.call 44 [(.iv 0)] [] [] 1 0 0 (.ite (.cm .eql (.ar .add .i64 (.iv 6) (.n 1)) (.iv 8)) (.rt (.ret [(.n 0), (.n 0), (.n 0), (.n 2)] [] [])) (.nxt [(.iv 1), (.iv 2), (.iv 3), (.iv 4), (.ar .or .u64 (.iv 5) (.iv 7)), (.ar .add .i64 (.iv 6) (.n 1))] [] []))))))) (.brk 2 [(.iv 1), (.iv 2), (.iv 3), (.iv 4), (.iv 5), (.iv 6)] [] []))
def k42_2 : Vx.T := (.rq (.cm .eql (.iv 1) (.n 2)) (.ret [(.n 0), (.n 0), (.n 0), (.n 1)] [] []))
def t42 : Vx.T := (.lb (.oo (.cm .lss (.iv 0) (.n 1)) (.cm .gtr (.iv 0) (.n 64))) (.ite (.bv 0) (.ret [(.n 0), (.n 0), (.n 0), (.n 5)] [] []) (.lp [(.n 0), (.n 0), (.n 0), (.n 0), (.n 0), (.n 0)] [] [] 6 0 0 l42_1 k42_2)))
def a42 : Tab := [⟨44, s44, F44⟩]
theorem x42 : sxFn Try.prog (Tab.sig a42) (inlN Try.prog (Tab.sig a42) (hintOf hs) 6) H42 Try.f42 (Try.f42.body.getD .skip) s42 = t42 := by kernel_rfl
theorem e42_44 : Tab.fn a42 44 = F44 := rfl
def F42 : Vx.Fn := Vx.Fd t42 (Tab.fn a42)
theorem g42 : Vx.Good Try.prog True_ 42 s42 F42 := good_of_tree hm hI (Tab.Good.cons g44 Tab.Good.nil) H42 hs 6 Try.func42 rfl (by kernel_rfl) x42
/-! trammel/leb.U -/
def s31 : Sig := ⟨[(.v (.lf [(.i .u8)])), (.v (.i .i64))], [(.v (.i .u64)), (.v (.i .i64)), (.v (.i .i64))]⟩
def H31 : Hint := ⟨[], [], [], 12, false⟩
def t31 : Vx.T := (.call 42 [(.iv 0)] [] [(.v 0)] 4 0 0 (.ite (.cm .neq (.iv 4) (.n 0)) (.ret [(.n 0), (.n 0), (.iv 4)] [] []) (.li (.ar .sub .i64 (.iv 0) (.ar .mul .i64 (.n 7) (.ar .sub .i64 (.iv 3) (.n 1)))) (.rq (.oo (.nt (.cm .lss (.iv 5) (.n 7))) (.cm .geq (.cv .u64 (.iv 5)) (.n 0))) (.lb (.an (.cm .lss (.iv 5) (.n 7)) (.cm .neq (.ar .shr .u8 (.iv 2) (.cv .u64 (.iv 5))) (.n 0))) (.ite (.bv 0) (.ret [(.n 0), (.n 0), (.n 2)] [] []) (.ret [(.iv 1), (.iv 3), (.n 0)] [] [])))))))
def a31 : Tab := [⟨42, s42, F42⟩]
theorem x31 : sxFn Try.prog (Tab.sig a31) (inlN Try.prog (Tab.sig a31) (hintOf hs) 6) H31 Try.f31 (Try.f31.body.getD .skip) s31 = t31 := by kernel_rfl
theorem e31_42 : Tab.fn a31 42 = F42 := rfl
def F31 : Vx.Fn := Vx.Fd t31 (Tab.fn a31)
theorem g31 : Vx.Good Try.prog True_ 31 s31 F31 := good_of_tree hm hI (Tab.Good.cons g42 Tab.Good.nil) H31 hs 6 Try.func31 rfl (by kernel_rfl) x31
/-! trammel/typ.Val -/
def s16 : Sig := ⟨[(.v (.lf [(.i .u8)]))], [(.v (.i .i64)), (.v (.i .i64)), (.v (.i .i64))]⟩
def H16 : Hint := ⟨[], [], [], 12, false⟩
def t16 : Vx.T := (.ite (.cm .eql (.ln 0) (.n 0)) (.ret [(.n 0), (.n 0), (.n 1)] [] []) (.rq (.cm .lss (.n 0) (.ln 0)) (.ite (.cm .eql (.ix 0 (.n 0) 0) (.n 127)) (.ite (.cm .eql (.ix 0 (.n 0) 0) (.n 127)) (.ret [(.cv .i64 (.ix 0 (.n 0) 0)), (.n 1), (.n 0)] [] []) (.ite (.cm .eql (.ix 0 (.n 0) 0) (.n 125)) (.ite (.cm .eql (.ix 0 (.n 0) 0) (.n 125)) (.ret [(.n 0), (.n 0), (.n 3)] [] []) (.ret [(.n 0), (.n 0), (.n 2)] [] [])) (.ite (.cm .eql (.ix 0 (.n 0) 0) (.n 124)) (.ite (.cm .eql (.ix 0 (.n 0) 0) (.n 124)) (.ret [(.n 0), (.n 0), (.n 3)] [] []) (.ret [(.n 0), (.n 0), (.n 2)] [] [])) (.ite (.cm .eql (.ix 0 (.n 0) 0) (.n 123)) (.ite (.cm .eql (.ix 0 (.n 0) 0) (.n 123)) (.ret [(.n 0), (.n 0), (.n 3)] [] []) (.ret [(.n 0), (.n 0), (.n 2)] [] [])) (.ite (.cm .eql (.ix 0 (.n 0) 0) (.n 112)) (.ite (.cm .eql (.ix 0 (.n 0) 0) (.n 112)) (.ret [(.n 0), (.n 0), (.n 3)] [] []) (.ret [(.n 0), (.n 0), (.n 2)] [] [])) (.ite (.cm .eql (.ix 0 (.n 0) 0) (.n 111)) (.ret [(.n 0), (.n 0), (.n 3)] [] []) (.ret [(.n 0), (.n 0), (.n 2)] [] []))))))) (.ite (.cm .eql (.ix 0 (.n 0) 0) (.n 126)) (.ret [(.cv .i64 (.ix 0 (.n 0) 0)), (.n 1), (.n 0)] [] []) (.ite (.cm .eql (.ix 0 (.n 0) 0) (.n 125)) (.ite (.cm .eql (.ix 0 (.n 0) 0) (.n 125)) (.ret [(.n 0), (.n 0), (.n 3)] [] []) (.ret [(.n 0), (.n 0), (.n 2)] [] [])) (.ite (.cm .eql (.ix 0 (.n 0) 0) (.n 124)) (.ite (.cm .eql (.ix 0 (.n 0) 0) (.n 124)) (.ret [(.n 0), (.n 0), (.n 3)] [] []) (.ret [(.n 0), (.n 0), (.n 2)] [] [])) (.ite (.cm .eql (.ix 0 (.n 0) 0) (.n 123)) (.ite (.cm .eql (.ix 0 (.n 0) 0) (.n 123)) (.ret [(.n 0), (.n 0), (.n 3)] [] []) (.ret [(.n 0), (.n 0), (.n 2)] [] [])) (.ite (.cm .eql (.ix 0 (.n 0) 0) (.n 112)) (.ite (.cm .eql (.ix 0 (.n 0) 0) (.n 112)) (.ret [(.n 0), (.n 0), (.n 3)] [] []) (.ret [(.n 0), (.n 0), (.n 2)] [] [])) (.ite (.cm .eql (.ix 0 (.n 0) 0) (.n 111)) (.ret [(.n 0), (.n 0), (.n 3)] [] []) (.ret [(.n 0), (.n 0), (.n 2)] [] []))))))))))
def a16 : Tab := []
theorem x16 : sxFn Try.prog (Tab.sig a16) (inlN Try.prog (Tab.sig a16) (hintOf hs) 6) H16 Try.f16 (Try.f16.body.getD .skip) s16 = t16 := by kernel_rfl
def F16 : Vx.Fn := Vx.Fd t16 (Tab.fn a16)
theorem g16 : Vx.Good Try.prog True_ 16 s16 F16 := good_of_tree hm hI Tab.Good.nil H16 hs 6 Try.func16 rfl (by kernel_rfl) x16
/-! trammel/typ.vals -/
def s28 : Sig := ⟨[(.v (.lf [(.i .u8)]))], [(.v (.lo 3 [(.i .i64)])), (.v (.i .i64)), (.v (.i .i64))]⟩
def H28 : Hint := ⟨[], [(9, some ⟨[(2, false, [.lo 3 [(.i .i64)]]), (3, false, [.i .i64]), (4, false, [.i .i64]), (6, false, [.i .i64]), (8, false, [.lo 3 [(.i .i64)]]), (24, false, [.i .u64])], [], [], [9, 10, 11, 25, 26, 27, 28, 29, 30, 31, 32, 33, 34, 35, 36, 37, 38, 39, 40, 41, 42, 43, 44], [], []⟩)], [], 12, false⟩
def l28_1 : Vx.T := (.ite (.cm .lss (.iv 6) (.iv 0)) (.rq (.an (.cm .leq (.n 0) (.iv 5)) (.an (.cm .leq (.iv 5) (.ln 0)) (.cm .leq (.ln 0) (.ln 0)))) (.lst [(.cut (.v 0) (.iv 5) (.ln 0))] (.call 16 [] [] [(.v 3)] 3 0 0 (.ite (.cm .neq (.iv 9) (.n 0)) (.rt (.ret [(.n 0), (.iv 9)] [] [.nil])) (.lst [(.els [[(.i (.iv 7))]])] (.rq (.an (.cm .leq (.ln 2) (.n 3909374676536)) (.cm .leq (.ln 4) (.n 3909374676536))) (.lst [(.ap (.v 2) (.v 4))] (.nxt [(.iv 3), (.iv 4), (.ar .add .i64 (.iv 5) (.iv 8)), (.ar .add .u64 (.iv 6) (.n 1))] [] [(.v 1), (.v 5)])))))))) (.brk 2 [(.iv 3), (.iv 4), (.iv 5), (.iv 6)] [] [(.v 1), (.v 2)]))
def k28_2 : Vx.T := (.rq (.cm .eql (.iv 3) (.n 2)) (.ret [(.iv 6), (.n 0)] [] [(.v 2)]))
def t28 : Vx.T := (.call 31 [(.n 32)] [] [(.v 0)] 3 0 0 (.ite (.cm .neq (.iv 2) (.n 0)) (.ret [(.n 0), (.iv 2)] [] [.nil]) (.ite (.cm .gtr (.iv 0) (.n 8)) (.ret [(.n 0), (.n 4)] [] [.nil]) (.lp [(.n 0), (.n 0), (.iv 1), (.n 0)] [] [.nil, .nil] 4 0 2 l28_1 k28_2))))
def a28 : Tab := [⟨31, s31, F31⟩, ⟨16, s16, F16⟩]
theorem x28 : sxFn Try.prog (Tab.sig a28) (inlN Try.prog (Tab.sig a28) (hintOf hs) 6) H28 Try.f28 (Try.f28.body.getD .skip) s28 = t28 := by kernel_rfl
theorem e28_31 : Tab.fn a28 31 = F31 := rfl
theorem e28_16 : Tab.fn a28 16 = F16 := rfl
def F28 : Vx.Fn := Vx.Fd t28 (Tab.fn a28)
theorem g28 : Vx.Good Try.prog True_ 28 s28 F28 := good_of_tree hm hI (Tab.Good.cons g31 (Tab.Good.cons g16 Tab.Good.nil)) H28 hs 6 Try.func28 rfl (by kernel_rfl) x28
/-! trammel/typ.Func -/
def s8 : Sig := ⟨[(.v (.lf [(.i .u8)]))], [(.agg [(.lo 3 [(.i .i64)]), (.lo 3 [(.i .i64)])]), (.v (.i .i64)), (.v (.i .i64))]⟩
def H8 : Hint := ⟨[], [], [], 12, false⟩
def t8 : Vx.T := (.ite (.cm .eql (.ln 0) (.n 0)) (.ret [(.n 0), (.n 1)] [] [.nil, .nil]) (.rq (.cm .lss (.n 0) (.ln 0)) (.ite (.cm .neq (.ix 0 (.n 0) 0) (.n 96)) (.ret [(.n 0), (.n 2)] [] [.nil, .nil]) (.rq (.an (.cm .leq (.n 1) (.ln 0)) (.cm .leq (.ln 0) (.ln 0))) (.lst [(.cut (.v 0) (.n 1) (.ln 0))] (.call 28 [] [] [(.v 1)] 2 0 1 (.ite (.cm .neq (.iv 1) (.n 0)) (.ret [(.n 0), (.iv 1)] [] [.nil, .nil]) (.rq (.an (.cm .leq (.n 0) (.ar .add .i64 (.n 1) (.iv 0))) (.an (.cm .leq (.ar .add .i64 (.n 1) (.iv 0)) (.ln 0)) (.cm .leq (.ln 0) (.ln 0)))) (.lst [(.cut (.v 0) (.ar .add .i64 (.n 1) (.iv 0)) (.ln 0))] (.call 28 [] [] [(.v 3)] 2 0 1 (.ite (.cm .neq (.iv 3) (.n 0)) (.ret [(.n 0), (.iv 3)] [] [.nil, .nil]) (.ret [(.ar .add .i64 (.ar .add .i64 (.n 1) (.iv 0)) (.iv 2)), (.n 0)] [] [(.v 2), (.v 4)]))))))))))))
def a8 : Tab := [⟨28, s28, F28⟩]
theorem x8 : sxFn Try.prog (Tab.sig a8) (inlN Try.prog (Tab.sig a8) (hintOf hs) 6) H8 Try.f8 (Try.f8.body.getD .skip) s8 = t8 := by kernel_rfl
theorem e8_28 : Tab.fn a8 28 = F28 := rfl
def F8 : Vx.Fn := Vx.Fd t8 (Tab.fn a8)
theorem g8 : Vx.Good Try.prog True_ 8 s8 F8 := good_of_tree hm hI (Tab.Good.cons g28 Tab.Good.nil) H8 hs 6 Try.func8 rfl (by kernel_rfl) x8
/-! trammel/leb.S -/
def s33 : Sig := ⟨[(.v (.lf [(.i .u8)])), (.v (.i .i64))], [(.v (.i .i64)), (.v (.i .i64)), (.v (.i .i64))]⟩
def H33 : Hint := ⟨[], [], [], 12, false⟩
def t33 : Vx.T := (.call 42 [(.iv 0)] [] [(.v 0)] 4 0 0 (.ite (.cm .neq (.iv 4) (.n 0)) (.ret [(.n 0), (.n 0), (.iv 4)] [] []) (.li (.ar .sub .i64 (.iv 0) (.ar .mul .i64 (.n 7) (.ar .sub .i64 (.iv 3) (.n 1)))) (.ite (.cm .lss (.iv 5) (.n 7)) (.rq (.cm .geq (.cv .u64 (.ar .sub .i64 (.iv 5) (.n 1))) (.n 0)) (.lb (.cm .neq (.ar .shr .u8 (.iv 2) (.cv .u64 (.ar .sub .i64 (.iv 5) (.n 1)))) (.n 0)) (.rq (.oo (.nt (.bv 0)) (.cm .geq (.cv .u64 (.ar .sub .i64 (.iv 5) (.n 1))) (.n 0))) (.lb (.cm .neq (.ar .shr .u8 (.iv 2) (.cv .u64 (.ar .sub .i64 (.iv 5) (.n 1)))) (.ar .shr .u8 (.n 127) (.cv .u64 (.ar .sub .i64 (.iv 5) (.n 1))))) (.ite (.an (.bv 0) (.bv 1)) (.ret [(.n 0), (.n 0), (.n 2)] [] []) (.lb (.an (.cm .lss (.ar .mul .i64 (.n 7) (.iv 3)) (.n 64)) (.cm .neq (.ar .and .u8 (.iv 2) (.n 64)) (.n 0))) (.ite (.bv 2) (.rq (.cm .geq (.cv .u64 (.ar .mul .i64 (.n 7) (.iv 3))) (.n 0)) (.li (.ar .or .u64 (.iv 1) (.ar .shl .u64 (.n 18446744073709551615) (.cv .u64 (.ar .mul .i64 (.n 7) (.iv 3))))) (.ret [(.cv .i64 (.iv 6)), (.iv 3), (.n 0)] [] []))) (.ret [(.cv .i64 (.iv 1)), (.iv 3), (.n 0)] [] [])))))))) (.lb (.an (.cm .lss (.ar .mul .i64 (.n 7) (.iv 3)) (.n 64)) (.cm .neq (.ar .and .u8 (.iv 2) (.n 64)) (.n 0))) (.ite (.bv 0) (.rq (.cm .geq (.cv .u64 (.ar .mul .i64 (.n 7) (.iv 3))) (.n 0)) (.li (.ar .or .u64 (.iv 1) (.ar .shl .u64 (.n 18446744073709551615) (.cv .u64 (.ar .mul .i64 (.n 7) (.iv 3))))) (.ret [(.cv .i64 (.iv 6)), (.iv 3), (.n 0)] [] []))) (.ret [(.cv .i64 (.iv 1)), (.iv 3), (.n 0)] [] [])))))))
def a33 : Tab := [⟨42, s42, F42⟩]
theorem x33 : sxFn Try.prog (Tab.sig a33) (inlN Try.prog (Tab.sig a33) (hintOf hs) 6) H33 Try.f33 (Try.f33.body.getD .skip) s33 = t33 := by kernel_rfl
theorem e33_42 : Tab.fn a33 42 = F42 := rfl
def F33 : Vx.Fn := Vx.Fd t33 (Tab.fn a33)
theorem g33 : Vx.Good Try.prog True_ 33 s33 F33 := good_of_tree hm hI (Tab.Good.cons g42 Tab.Good.nil) H33 hs 6 Try.func33 rfl (by kernel_rfl) x33
/-! trammel/typ.Block -/
def s14 : Sig := ⟨[(.v (.lf [(.i .u8)]))], [(.v (.i .i64)), (.v (.i .i64)), (.v (.i .i64))]⟩
def H14 : Hint := ⟨[], [], [], 12, false⟩
def t14 : Vx.T := (.rq (.oo (.nt (.cm .gtr (.ln 0) (.n 0))) (.cm .lss (.n 0) (.ln 0))) (.ite (.cm .gtr (.ln 0) (.n 0)) (.rq (.cm .lss (.n 0) (.ln 0)) (.ite (.cm .eql (.ix 0 (.n 0) 0) (.n 64)) (.ret [(.n (-64)), (.n 1), (.n 0)] [] []) (.call 16 [] [] [(.v 0)] 3 0 0 (.ite (.cm .neq (.iv 2) (.n 2)) (.ite (.cm .neq (.iv 2) (.n 0)) (.ret [(.n 0), (.n 0), (.iv 2)] [] []) (.ret [(.ar .sub .i64 (.iv 0) (.n 128)), (.n 1), (.n 0)] [] [])) (.call 33 [(.n 33)] [] [(.v 0)] 3 0 0 (.ite (.cm .neq (.iv 5) (.n 0)) (.ret [(.n 0), (.n 0), (.iv 5)] [] []) (.ite (.cm .lss (.iv 3) (.n 0)) (.ret [(.n 0), (.n 0), (.n 2)] [] []) (.ret [(.iv 3), (.iv 4), (.n 0)] [] [])))))))) (.call 16 [] [] [(.v 0)] 3 0 0 (.ite (.cm .neq (.iv 2) (.n 2)) (.ite (.cm .neq (.iv 2) (.n 0)) (.ret [(.n 0), (.n 0), (.iv 2)] [] []) (.ret [(.ar .sub .i64 (.iv 0) (.n 128)), (.n 1), (.n 0)] [] [])) (.call 33 [(.n 33)] [] [(.v 0)] 3 0 0 (.ite (.cm .neq (.iv 5) (.n 0)) (.ret [(.n 0), (.n 0), (.iv 5)] [] []) (.ite (.cm .lss (.iv 3) (.n 0)) (.ret [(.n 0), (.n 0), (.n 2)] [] []) (.ret [(.iv 3), (.iv 4), (.n 0)] [] []))))))))
def a14 : Tab := [⟨16, s16, F16⟩, ⟨33, s33, F33⟩]
theorem x14 : sxFn Try.prog (Tab.sig a14) (inlN Try.prog (Tab.sig a14) (hintOf hs) 6) H14 Try.f14 (Try.f14.body.getD .skip) s14 = t14 := by kernel_rfl
theorem e14_16 : Tab.fn a14 16 = F16 := rfl
theorem e14_33 : Tab.fn a14 33 = F33 := rfl
def F14 : Vx.Fn := Vx.Fd t14 (Tab.fn a14)
theorem g14 : Vx.Good Try.prog True_ 14 s14 F14 := good_of_tree hm hI (Tab.Good.cons g16 (Tab.Good.cons g33 Tab.Good.nil)) H14 hs 6 Try.func14 rfl (by kernel_rfl) x14
/-! trammel/trammellaw05.awake -/
def s7 : Sig := ⟨[], [(.v .b)]⟩
def H7 : Hint := ⟨[], [], [], 12, false⟩
def t7 : Vx.T := (.lst [(.els [[(.i (.n 96))], [(.i (.n 2))], [(.i (.n 127))], [(.i (.n 126))], [(.i (.n 1))], [(.i (.n 127))], [(.i (.n 9))]])] (.call 8 [] [] [(.v 0)] 2 0 2 (.lst [(.els [[(.i (.n 64))]])] (.call 14 [] [] [(.v 3)] 3 0 0 (.lb (.an (.cm .eql (.iv 1) (.n 0)) (.cm .eql (.iv 0) (.n 6))) (.rq (.oo (.nt (.an (.bv 0) (.cm .eql (.ln 1) (.n 2)))) (.cm .lss (.n 1) (.ln 1))) (.ite (.an (.bv 0) (.cm .eql (.ln 1) (.n 2))) (.rq (.cm .lss (.n 1) (.ln 1)) (.lb (.an (.cm .eql (.ix 1 (.n 1) 0) (.n 126)) (.cm .eql (.iv 4) (.n 0))) (.ret [] [(.an (.bv 1) (.cm .eql (.iv 2) (.n (-64))))] []))) (.ret [] [(.t false)] []))))))))
def a7 : Tab := [⟨8, s8, F8⟩, ⟨14, s14, F14⟩]
theorem x7 : sxFn Try.prog (Tab.sig a7) (inlN Try.prog (Tab.sig a7) (hintOf hs) 6) H7 Try.f7 (Try.f7.body.getD .skip) s7 = t7 := by kernel_rfl
theorem e7_8 : Tab.fn a7 8 = F8 := rfl
theorem e7_14 : Tab.fn a7 14 = F14 := rfl
def F7 : Vx.Fn := Vx.Fd t7 (Tab.fn a7)
theorem g7 : Vx.Good Try.prog True_ 7 s7 F7 := good_of_tree hm hI (Tab.Good.cons g8 (Tab.Good.cons g14 Tab.Good.nil)) H7 hs 6 Try.func7 rfl (by kernel_rfl) x7
/-! slices.Clone[[]byte,byte] -/
def s36 : Sig := ⟨[(.v (.lf [(.i .u8)]))], [(.v (.lo 5 [(.i .u8)]))]⟩
def H36 : Hint := ⟨[], [], [], 12, false⟩
def t36 : Vx.T := (.nz 0 (.ret [] [] [.nil]) (.lst [(.els [])] (.rq (.an (.cm .leq (.ln 1) (.n 17592186044416)) (.cm .leq (.ln 0) (.n 17592186044416))) (.lst [(.ap (.v 1) (.v 0))] (.ret [] [] [(.v 2)])))))
def a36 : Tab := []
theorem x36 : sxFn Try.prog (Tab.sig a36) (inlN Try.prog (Tab.sig a36) (hintOf hs) 6) H36 Try.f36 (Try.f36.body.getD .skip) s36 = t36 := by kernel_rfl
def F36 : Vx.Fn := Vx.Fd t36 (Tab.fn a36)
theorem g36 : Vx.Good Try.prog True_ 36 s36 F36 := good_of_tree hm hI Tab.Good.nil H36 hs 6 Try.func36 rfl (by kernel_rfl) x36
/-! trammel/leb.PutU -/
def s38 : Sig := ⟨[(.v (.lf [(.i .u8)])), (.v (.i .u64))], [(.v (.lo 5 [(.i .u8)]))]⟩
def H38 : Hint := ⟨[], [(3, some ⟨[(1, false, [.i .u64]), (5, false, [.lo 5 [(.i .u8)]])], [], [], [8, 9, 10, 11, 12, 13, 14, 15, 16, 17], [], [1]⟩)], [], 12, false⟩
def l38_1 : Vx.T := (.ite (.cm .geq (.iv 1) (.n 128)) (.lst [(.els [[(.i (.ar .or .u8 (.cv .u8 (.iv 1)) (.n 128)))]])] (.rq (.an (.cm .leq (.ln 2) (.n 17592186044416)) (.cm .leq (.ln 3) (.n 17592186044416))) (.lst [(.ap (.v 2) (.v 3))] (.nxt [(.ar .shr .u64 (.iv 1) (.n 7))] [] [(.v 4)])))) (.brk 2 [(.iv 1)] [] [(.v 2)]))
def k38_2 : Vx.T := (.rq (.cm .eql (.iv 1) (.n 2)) (.lst [(.els [[(.i (.cv .u8 (.iv 2)))]])] (.rq (.an (.cm .leq (.ln 2) (.n 17592186044416)) (.cm .leq (.ln 3) (.n 17592186044416))) (.lst [(.ap (.v 2) (.v 3))] (.ret [] [] [(.v 4)])))))
def t38 : Vx.T := (.call 36 [] [] [(.v 0)] 0 0 1 (.lp [(.iv 0)] [] [(.v 1)] 1 0 1 l38_1 k38_2))
def a38 : Tab := [⟨36, s36, F36⟩]
theorem x38 : sxFn Try.prog (Tab.sig a38) (inlN Try.prog (Tab.sig a38) (hintOf hs) 6) H38 Try.f38 (Try.f38.body.getD .skip) s38 = t38 := by kernel_rfl
theorem e38_36 : Tab.fn a38 36 = F36 := rfl
def F38 : Vx.Fn := Vx.Fd t38 (Tab.fn a38)
theorem g38 : Vx.Good Try.prog True_ 38 s38 F38 := good_of_tree hm hI (Tab.Good.cons g36 Tab.Good.nil) H38 hs 6 Try.func38 rfl (by kernel_rfl) x38
/-! trammel/typ.putVals -/
def s35 : Sig := ⟨[(.v (.lf [(.i .u8)])), (.v (.lf [(.i .i64)]))], [(.v (.lo 5 [(.i .u8)])), (.v .b)]⟩
def H35 : Hint := ⟨[], [(4, some ⟨[(4, false, [.lo 5 [(.i .u8)]]), (5, false, [.b]), (6, false, [.lo 5 [(.i .u8)]]), (16, false, [.i .i64])], [], [], [8, 17, 18, 19, 20, 21, 22, 23, 24, 25, 26, 27, 28, 29, 30, 31], [], [2]⟩)], [], 12, false⟩
def l35_1 : Vx.T := (.ite (.cm .lss (.iv 0) (.ln 1)) (.rq (.cm .geq (.iv 0) (.n 0)) (.lb (.an (.cm .neq (.ix 1 (.iv 0) 0) (.n 127)) (.cm .neq (.ix 1 (.iv 0) 0) (.n 126))) (.ite (.bv 1) (.rt (.ret [] [(.t false)] [.nil])) (.lst [(.els [[(.i (.cv .u8 (.ix 1 (.iv 0) 0)))]])] (.rq (.an (.cm .leq (.ln 4) (.n 17592186044416)) (.cm .leq (.ln 5) (.n 17592186044416))) (.lst [(.ap (.v 4) (.v 5))] (.nxt [(.ar .add .i64 (.iv 0) (.n 1))] [(.bv 0)] [(.v 3), (.v 6)]))))))) (.brk 2 [(.iv 0)] [(.bv 0)] [(.v 3), (.v 4)]))
def k35_2 : Vx.T := (.rq (.cm .eql (.iv 0) (.n 2)) (.ret [] [(.cm .leq (.ln 1) (.n 8))] [(.v 4)]))
def t35 : Vx.T := (.call 38 [(.cv .u64 (.ln 1))] [] [(.v 0)] 0 0 1 (.lp [(.n 0)] [(.t false)] [.nil, (.v 2)] 1 1 2 l35_1 k35_2))
def a35 : Tab := [⟨38, s38, F38⟩]
theorem x35 : sxFn Try.prog (Tab.sig a35) (inlN Try.prog (Tab.sig a35) (hintOf hs) 6) H35 Try.f35 (Try.f35.body.getD .skip) s35 = t35 := by kernel_rfl
theorem e35_38 : Tab.fn a35 38 = F38 := rfl
def F35 : Vx.Fn := Vx.Fd t35 (Tab.fn a35)
theorem g35 : Vx.Good Try.prog True_ 35 s35 F35 := good_of_tree hm hI (Tab.Good.cons g38 Tab.Good.nil) H35 hs 6 Try.func35 rfl (by kernel_rfl) x35
/-! trammel/typ.PutFunc -/
def s18 : Sig := ⟨[(.v (.lf [(.i .u8)])), (.agg [(.lf [(.i .i64)]), (.lf [(.i .i64)])])], [(.v (.lo 5 [(.i .u8)])), (.v (.i .i64))]⟩
def H18 : Hint := ⟨[], [], [], 12, false⟩
def t18 : Vx.T := (.both (.call 36 [] [] [(.v 0)] 0 0 1 (.lst [(.els [[(.i (.n 96))]])] (.rq (.an (.cm .leq (.ln 3) (.n 17592186044416)) (.cm .leq (.ln 4) (.n 17592186044416))) (.lst [(.ap (.v 3) (.v 4))] (.call 35 [] [] [(.v 5), (.v 1)] 0 1 1 (.ite (.nt (.bv 0)) (.ret [(.n 2)] [] [.nil]) (.call 35 [] [] [(.v 6), (.v 2)] 0 1 1 (.ite (.nt (.bv 1)) (.ret [(.n 2)] [] [.nil]) (.ret [(.n 0)] [] [(.v 7)]))))))))) (.lst [(.els [[(.i (.n 96))]])] (.call 36 [] [] [(.v 0)] 0 0 1 (.rq (.an (.cm .leq (.ln 4) (.n 17592186044416)) (.cm .leq (.ln 3) (.n 17592186044416))) (.lst [(.ap (.v 4) (.v 3))] (.call 35 [] [] [(.v 5), (.v 1)] 0 1 1 (.ite (.nt (.bv 0)) (.ret [(.n 2)] [] [.nil]) (.call 35 [] [] [(.v 6), (.v 2)] 0 1 1 (.ite (.nt (.bv 1)) (.ret [(.n 2)] [] [.nil]) (.ret [(.n 0)] [] [(.v 7)]))))))))))
def a18 : Tab := [⟨36, s36, F36⟩, ⟨35, s35, F35⟩]
theorem x18 : sxFn Try.prog (Tab.sig a18) (inlN Try.prog (Tab.sig a18) (hintOf hs) 6) H18 Try.f18 (Try.f18.body.getD .skip) s18 = t18 := by kernel_rfl
theorem e18_36 : Tab.fn a18 36 = F36 := rfl
theorem e18_35 : Tab.fn a18 35 = F35 := rfl
def F18 : Vx.Fn := Vx.Fd t18 (Tab.fn a18)
theorem g18 : Vx.Good Try.prog True_ 18 s18 F18 := good_of_tree hm hI (Tab.Good.cons g36 (Tab.Good.cons g35 Tab.Good.nil)) H18 hs 6 Try.func18 rfl (by kernel_rfl) x18
/-! trammel/trammelref05.SameInts -/
def s29 : Sig := ⟨[(.v (.lf [(.i .i64)])), (.v (.lf [(.i .i64)]))], [(.v .b)]⟩
def H29 : Hint := ⟨[], [(5, some ⟨[(4, false, [.b]), (5, false, [.i .i64])], [], [], [11, 12, 13, 14, 15, 16, 17, 18, 19, 20, 21, 22, 23, 24, 25], [], []⟩)], [], 12, false⟩
def l29_1 : Vx.T := (.ite (.cm .lss (.iv 0) (.ln 0)) (.rq (.cm .geq (.iv 0) (.n 0)) (.rq (.cm .lss (.iv 0) (.ln 1)) (.ite (.cm .neq (.ix 0 (.iv 0) 0) (.ix 1 (.iv 0) 0)) (.rt (.ret [] [(.t false)] [])) (.nxt [(.ar .add .i64 (.iv 0) (.n 1))] [(.bv 0)] [])))) (.brk 2 [(.iv 0)] [(.bv 0)] []))
def k29_2 : Vx.T := (.rq (.cm .eql (.iv 0) (.n 2)) (.ret [] [(.t true)] []))
def t29 : Vx.T := (.ite (.cm .neq (.ln 0) (.ln 1)) (.ret [] [(.t false)] []) (.lp [(.n 0)] [(.t false)] [] 1 1 0 l29_1 k29_2))
def a29 : Tab := []
theorem x29 : sxFn Try.prog (Tab.sig a29) (inlN Try.prog (Tab.sig a29) (hintOf hs) 6) H29 Try.f29 (Try.f29.body.getD .skip) s29 = t29 := by kernel_rfl
def F29 : Vx.Fn := Vx.Fd t29 (Tab.fn a29)
theorem g29 : Vx.Good Try.prog True_ 29 s29 F29 := good_of_tree hm hI Tab.Good.nil H29 hs 6 Try.func29 rfl (by kernel_rfl) x29
/-! trammel/trammelref05.Same -/
def s10 : Sig := ⟨[(.agg [(.lf [(.i .i64)]), (.lf [(.i .i64)])]), (.agg [(.lf [(.i .i64)]), (.lf [(.i .i64)])])], [(.v .b)]⟩
def H10 : Hint := ⟨[], [], [], 12, false⟩
def t10 : Vx.T := (.call 29 [] [] [(.v 0), (.v 2)] 0 1 0 (.ite (.bv 0) (.call 29 [] [] [(.v 1), (.v 3)] 0 1 0 (.ret [] [(.bv 1)] [])) (.ret [] [(.t false)] [])))
def a10 : Tab := [⟨29, s29, F29⟩]
theorem x10 : sxFn Try.prog (Tab.sig a10) (inlN Try.prog (Tab.sig a10) (hintOf hs) 6) H10 Try.f10 (Try.f10.body.getD .skip) s10 = t10 := by kernel_rfl
theorem e10_29 : Tab.fn a10 29 = F29 := rfl
def F10 : Vx.Fn := Vx.Fd t10 (Tab.fn a10)
theorem g10 : Vx.Good Try.prog True_ 10 s10 F10 := good_of_tree hm hI (Tab.Good.cons g29 Tab.Good.nil) H10 hs 6 Try.func10 rfl (by kernel_rfl) x10
/-! trammel/typ.right -/
def s37 : Sig := ⟨[(.v (.i .i64))], [(.v .b)]⟩
def H37 : Hint := ⟨[], [], [], 12, false⟩
def t37 : Vx.T := (.lb (.an (.cm .geq (.iv 0) (.n 0)) (.cm .lss (.iv 0) (.n 4294967296))) (.ret [] [(.bv 0)] []))
def a37 : Tab := []
theorem x37 : sxFn Try.prog (Tab.sig a37) (inlN Try.prog (Tab.sig a37) (hintOf hs) 6) H37 Try.f37 (Try.f37.body.getD .skip) s37 = t37 := by kernel_rfl
def F37 : Vx.Fn := Vx.Fd t37 (Tab.fn a37)
theorem g37 : Vx.Good Try.prog True_ 37 s37 F37 := good_of_tree hm hI Tab.Good.nil H37 hs 6 Try.func37 rfl (by kernel_rfl) x37
/-! trammel/typ.PutLimits -/
def s22 : Sig := ⟨[(.v (.lf [(.i .u8)])), (.agg [(.i .i64), .b, (.i .i64)])], [(.v (.lo 5 [(.i .u8)])), (.v (.i .i64))]⟩
def H22 : Hint := ⟨[], [], [], 12, false⟩
def t22 : Vx.T := (.call 37 [(.iv 0)] [] [] 0 1 0 (.ite (.bv 1) (.call 37 [(.iv 1)] [] [] 0 1 0 (.lb (.oo (.nt (.bv 2)) (.an (.nt (.bv 0)) (.cm .neq (.iv 1) (.n 0)))) (.ite (.bv 3) (.ret [(.n 2)] [] [.nil]) (.ite (.nt (.bv 0)) (.both (.call 36 [] [] [(.v 0)] 0 0 1 (.lst [(.els [[(.i (.n 0))]])] (.rq (.an (.cm .leq (.ln 1) (.n 17592186044416)) (.cm .leq (.ln 2) (.n 17592186044416))) (.lst [(.ap (.v 1) (.v 2))] (.call 38 [(.cv .u64 (.iv 0))] [] [(.v 3)] 0 0 1 (.ret [(.n 0)] [] [(.v 4)])))))) (.lst [(.els [[(.i (.n 0))]])] (.call 36 [] [] [(.v 0)] 0 0 1 (.rq (.an (.cm .leq (.ln 2) (.n 17592186044416)) (.cm .leq (.ln 1) (.n 17592186044416))) (.lst [(.ap (.v 2) (.v 1))] (.call 38 [(.cv .u64 (.iv 0))] [] [(.v 3)] 0 0 1 (.ret [(.n 0)] [] [(.v 4)]))))))) (.both (.call 36 [] [] [(.v 0)] 0 0 1 (.lst [(.els [[(.i (.n 1))]])] (.rq (.an (.cm .leq (.ln 1) (.n 17592186044416)) (.cm .leq (.ln 2) (.n 17592186044416))) (.lst [(.ap (.v 1) (.v 2))] (.call 38 [(.cv .u64 (.iv 0))] [] [(.v 3)] 0 0 1 (.call 38 [(.cv .u64 (.iv 1))] [] [(.v 4)] 0 0 1 (.ret [(.n 0)] [] [(.v 5)]))))))) (.lst [(.els [[(.i (.n 1))]])] (.call 36 [] [] [(.v 0)] 0 0 1 (.rq (.an (.cm .leq (.ln 2) (.n 17592186044416)) (.cm .leq (.ln 1) (.n 17592186044416))) (.lst [(.ap (.v 2) (.v 1))] (.call 38 [(.cv .u64 (.iv 0))] [] [(.v 3)] 0 0 1 (.call 38 [(.cv .u64 (.iv 1))] [] [(.v 4)] 0 0 1 (.ret [(.n 0)] [] [(.v 5)])))))))))))) (.ret [(.n 2)] [] [.nil])))
def a22 : Tab := [⟨37, s37, F37⟩, ⟨36, s36, F36⟩, ⟨38, s38, F38⟩]
theorem x22 : sxFn Try.prog (Tab.sig a22) (inlN Try.prog (Tab.sig a22) (hintOf hs) 6) H22 Try.f22 (Try.f22.body.getD .skip) s22 = t22 := by kernel_rfl
theorem e22_37 : Tab.fn a22 37 = F37 := rfl
theorem e22_36 : Tab.fn a22 36 = F36 := rfl
theorem e22_38 : Tab.fn a22 38 = F38 := rfl
def F22 : Vx.Fn := Vx.Fd t22 (Tab.fn a22)
theorem g22 : Vx.Good Try.prog True_ 22 s22 F22 := good_of_tree hm hI (Tab.Good.cons g37 (Tab.Good.cons g36 (Tab.Good.cons g38 Tab.Good.nil))) H22 hs 6 Try.func22 rfl (by kernel_rfl) x22
/-! trammel/typ.Limits -/
def s12 : Sig := ⟨[(.v (.lf [(.i .u8)]))], [(.agg [(.i .i64), .b, (.i .i64)]), (.v (.i .i64)), (.v (.i .i64))]⟩
def H12 : Hint := ⟨[], [], [], 12, false⟩
def t12 : Vx.T := (.ite (.cm .eql (.ln 0) (.n 0)) (.ret [(.n 0), (.n 0), (.n 0), (.n 1)] [(.t false)] []) (.rq (.cm .lss (.n 0) (.ln 0)) (.ite (.cm .gtr (.ix 0 (.n 0) 0) (.n 1)) (.ret [(.n 0), (.n 0), (.n 0), (.n 2)] [(.t false)] []) (.rq (.an (.cm .leq (.n 1) (.ln 0)) (.cm .leq (.ln 0) (.ln 0))) (.lst [(.cut (.v 0) (.n 1) (.ln 0))] (.call 31 [(.n 32)] [] [(.v 1)] 3 0 0 (.rq (.oo (.cm .neq (.iv 2) (.n 0)) (.cm .lss (.n 0) (.ln 0))) (.ite (.nt (.cm .neq (.iv 2) (.n 0))) (.ite (.cm .eql (.ix 0 (.n 0) 0) (.n 0)) (.ite (.cm .neq (.iv 2) (.n 0)) (.ret [(.n 0), (.n 0), (.n 0), (.iv 2)] [(.t false)] []) (.ret [(.cv .i64 (.iv 0)), (.n 0), (.ar .add .i64 (.n 1) (.iv 1)), (.n 0)] [(.t false)] [])) (.rq (.an (.cm .leq (.n 0) (.ar .add .i64 (.n 1) (.iv 1))) (.an (.cm .leq (.ar .add .i64 (.n 1) (.iv 1)) (.ln 0)) (.cm .leq (.ln 0) (.ln 0)))) (.lst [(.cut (.v 0) (.ar .add .i64 (.n 1) (.iv 1)) (.ln 0))] (.call 31 [(.n 32)] [] [(.v 2)] 3 0 0 (.ite (.cm .neq (.iv 5) (.n 0)) (.ret [(.n 0), (.n 0), (.n 0), (.iv 5)] [(.t false)] []) (.ret [(.cv .i64 (.iv 0)), (.cv .i64 (.iv 3)), (.ar .add .i64 (.ar .add .i64 (.n 1) (.iv 1)) (.iv 4)), (.n 0)] [(.t true)] [])))))) (.ite (.cm .neq (.iv 2) (.n 0)) (.ret [(.n 0), (.n 0), (.n 0), (.iv 2)] [(.t false)] []) (.ret [(.cv .i64 (.iv 0)), (.n 0), (.ar .add .i64 (.n 1) (.iv 1)), (.n 0)] [(.t false)] []))))))))))
def a12 : Tab := [⟨31, s31, F31⟩]
theorem x12 : sxFn Try.prog (Tab.sig a12) (inlN Try.prog (Tab.sig a12) (hintOf hs) 6) H12 Try.f12 (Try.f12.body.getD .skip) s12 = t12 := by kernel_rfl
theorem e12_31 : Tab.fn a12 31 = F31 := rfl
def F12 : Vx.Fn := Vx.Fd t12 (Tab.fn a12)
theorem g12 : Vx.Good Try.prog True_ 12 s12 F12 := good_of_tree hm hI (Tab.Good.cons g31 Tab.Good.nil) H12 hs 6 Try.func12 rfl (by kernel_rfl) x12
/-! trammel/leb.PutS -/
def s40 : Sig := ⟨[(.v (.lf [(.i .u8)])), (.v (.i .i64))], [(.v (.lo 5 [(.i .u8)]))]⟩
def H40 : Hint := ⟨[], [(3, some ⟨[(1, false, [.i .i64]), (5, false, [.lo 5 [(.i .u8)]])], [], [], [8, 9, 10, 11, 12, 13, 14, 15, 16, 17, 18, 19, 20, 21], [], [1]⟩)], [], 12, false⟩
def l40_1 : Vx.T := (.lb (.oo (.cm .lss (.iv 1) (.n (-64))) (.cm .gtr (.iv 1) (.n 63))) (.ite (.bv 0) (.lst [(.els [[(.i (.ar .or .u8 (.cv .u8 (.iv 1)) (.n 128)))]])] (.rq (.an (.cm .leq (.ln 2) (.n 17592186044416)) (.cm .leq (.ln 3) (.n 17592186044416))) (.lst [(.ap (.v 2) (.v 3))] (.nxt [(.ar .shr .i64 (.iv 1) (.n 7))] [] [(.v 4)])))) (.brk 2 [(.iv 1)] [] [(.v 2)])))
def k40_2 : Vx.T := (.rq (.cm .eql (.iv 1) (.n 2)) (.lst [(.els [[(.i (.ar .and .u8 (.cv .u8 (.iv 2)) (.n 127)))]])] (.rq (.an (.cm .leq (.ln 2) (.n 17592186044416)) (.cm .leq (.ln 3) (.n 17592186044416))) (.lst [(.ap (.v 2) (.v 3))] (.ret [] [] [(.v 4)])))))
def t40 : Vx.T := (.call 36 [] [] [(.v 0)] 0 0 1 (.lp [(.iv 0)] [] [(.v 1)] 1 0 1 l40_1 k40_2))
def a40 : Tab := [⟨36, s36, F36⟩]
theorem x40 : sxFn Try.prog (Tab.sig a40) (inlN Try.prog (Tab.sig a40) (hintOf hs) 6) H40 Try.f40 (Try.f40.body.getD .skip) s40 = t40 := by kernel_rfl
theorem e40_36 : Tab.fn a40 36 = F36 := rfl
def F40 : Vx.Fn := Vx.Fd t40 (Tab.fn a40)
theorem g40 : Vx.Good Try.prog True_ 40 s40 F40 := good_of_tree hm hI (Tab.Good.cons g36 Tab.Good.nil) H40 hs 6 Try.func40 rfl (by kernel_rfl) x40
/-! trammel/typ.PutBlock -/
def s25 : Sig := ⟨[(.v (.lf [(.i .u8)])), (.v (.i .i64))], [(.v (.lo 5 [(.i .u8)])), (.v (.i .i64))]⟩
def H25 : Hint := ⟨[], [], [], 12, false⟩
def t25 : Vx.T := (.lb (.an (.cm .neq (.iv 0) (.n (-64))) (.cm .neq (.iv 0) (.n (-1)))) (.ite (.an (.bv 0) (.cm .neq (.iv 0) (.n (-2)))) (.call 37 [(.iv 0)] [] [] 0 1 0 (.ite (.nt (.bv 1)) (.ret [(.n 2)] [] [.nil]) (.call 40 [(.iv 0)] [] [(.v 0)] 0 0 1 (.ret [(.n 0)] [] [(.v 1)])))) (.call 40 [(.iv 0)] [] [(.v 0)] 0 0 1 (.ret [(.n 0)] [] [(.v 1)]))))
def a25 : Tab := [⟨37, s37, F37⟩, ⟨40, s40, F40⟩]
theorem x25 : sxFn Try.prog (Tab.sig a25) (inlN Try.prog (Tab.sig a25) (hintOf hs) 6) H25 Try.f25 (Try.f25.body.getD .skip) s25 = t25 := by kernel_rfl
theorem e25_37 : Tab.fn a25 37 = F37 := rfl
theorem e25_40 : Tab.fn a25 40 = F40 := rfl
def F25 : Vx.Fn := Vx.Fd t25 (Tab.fn a25)
theorem g25 : Vx.Good Try.prog True_ 25 s25 F25 := good_of_tree hm hI (Tab.Good.cons g37 (Tab.Good.cons g40 Tab.Good.nil)) H25 hs 6 Try.func25 rfl (by kernel_rfl) x25
/-! trammel/trammellaw05.TypBack -/
def s6 : Sig := ⟨[(.agg [(.lf [(.i .i64)]), (.lf [(.i .i64)])]), (.agg [(.i .i64), .b, (.i .i64)]), (.v (.i .i64)), (.v (.lf [(.i .u8)]))], [(.v .b)]⟩
def H6 : Hint := ⟨[], [(100007, some ⟨[(8, false, [.b])], [], [], [11, 12, 13, 38, 39, 40, 41, 42, 43, 44, 45, 46, 47, 48, 49, 50, 51, 52, 53, 54, 55, 56, 57, 58, 59], [], [4]⟩), (100012, some ⟨[(8, false, [.b])], [], [], [16, 17, 18, 67, 68, 69, 70, 71, 72, 73, 74, 75, 76, 77, 78, 79, 80, 81, 82, 83, 84, 85, 86, 87], [], [4, 5]⟩), (100017, some ⟨[(8, false, [.b])], [], [], [21, 22, 23, 95, 96, 97, 98, 99, 100, 101, 102, 103, 104, 105, 106, 107, 108, 109, 110, 111, 112, 113, 114, 115], [], [5, 6]⟩)], [], 12, false⟩
def t6 : Vx.T := (.call 7 [] [] [] 0 1 0 (.ite (.nt (.bv 1)) (.ret [] [(.t false)] []) (.rq (.an (.cm .leq (.n 0) (.mn (.ln 2) (.n 300))) (.cm .leq (.mn (.ln 2) (.n 300)) (.ln 2))) (.lst [(.cut (.v 2) (.n 0) (.mn (.ln 2) (.n 300)))] (.call 18 [] [] [.nil, (.v 0), (.v 1)] 1 0 1 (.jn (.ite (.cm .eql (.iv 3) (.n 0)) (.rq (.an (.cm .leq (.ln 4) (.n 17592186044416)) (.cm .leq (.ln 3) (.n 17592186044416))) (.lst [(.ap (.v 4) (.v 3))] (.call 8 [] [] [(.v 5)] 2 0 2 (.lb (.oo (.cm .neq (.iv 5) (.n 0)) (.cm .neq (.iv 4) (.ln 4))) (.ite (.nt (.bv 2)) (.call 10 [] [] [(.v 0), (.v 1), (.v 6), (.v 7)] 0 1 0 (.ite (.nt (.bv 3)) (.rt (.ret [] [(.t false)] [])) (.brk 0 [] [(.t false)] []))) (.rt (.ret [] [(.t false)] []))))))) (.brk 0 [] [(.t false)] [])) 0 1 0 (.rq (.cm .eql (.iv 4) (.n 0)) (.call 22 [(.iv 0), (.iv 1)] [(.bv 0)] [.nil] 1 0 1 (.jn (.ite (.cm .eql (.iv 5) (.n 0)) (.rq (.an (.cm .leq (.ln 5) (.n 17592186044416)) (.cm .leq (.ln 3) (.n 17592186044416))) (.lst [(.ap (.v 5) (.v 3))] (.call 12 [] [] [(.v 6)] 4 1 0 (.lb (.oo (.cm .neq (.iv 9) (.n 0)) (.cm .neq (.iv 8) (.ln 5))) (.lb (.nt (.an (.cm .eql (.iv 6) (.iv 0)) (.an (.be (.bv 3) (.bv 0)) (.cm .eql (.iv 7) (.iv 1))))) (.ite (.oo (.bv 4) (.bv 5)) (.rt (.ret [] [(.t false)] [])) (.brk 0 [] [(.bv 2)] []))))))) (.brk 0 [] [(.bv 2)] [])) 0 1 0 (.rq (.cm .eql (.iv 6) (.n 0)) (.call 25 [(.iv 2)] [] [.nil] 1 0 1 (.jn (.ite (.cm .eql (.iv 7) (.n 0)) (.rq (.an (.cm .leq (.ln 6) (.n 17592186044416)) (.cm .leq (.ln 3) (.n 17592186044416))) (.lst [(.ap (.v 6) (.v 3))] (.call 14 [] [] [(.v 7)] 3 0 0 (.lb (.oo (.cm .neq (.iv 10) (.n 0)) (.cm .neq (.iv 9) (.ln 6))) (.ite (.oo (.bv 4) (.cm .neq (.iv 8) (.iv 2))) (.rt (.ret [] [(.t false)] [])) (.brk 0 [] [(.bv 3)] [])))))) (.brk 0 [] [(.bv 3)] [])) 0 1 0 (.rq (.cm .eql (.iv 8) (.n 0)) (.ret [] [(.t true)] []))))))))))))))
def a6 : Tab := [⟨7, s7, F7⟩, ⟨18, s18, F18⟩, ⟨8, s8, F8⟩, ⟨10, s10, F10⟩, ⟨22, s22, F22⟩, ⟨12, s12, F12⟩, ⟨25, s25, F25⟩, ⟨14, s14, F14⟩]
theorem x6 : sxFn Try.prog (Tab.sig a6) (inlN Try.prog (Tab.sig a6) (hintOf hs) 6) H6 Try.f6 (Try.f6.body.getD .skip) s6 = t6 := by kernel_rfl
theorem e6_7 : Tab.fn a6 7 = F7 := rfl
theorem e6_18 : Tab.fn a6 18 = F18 := rfl
theorem e6_8 : Tab.fn a6 8 = F8 := rfl
theorem e6_10 : Tab.fn a6 10 = F10 := rfl
theorem e6_22 : Tab.fn a6 22 = F22 := rfl
theorem e6_12 : Tab.fn a6 12 = F12 := rfl
theorem e6_25 : Tab.fn a6 25 = F25 := rfl
theorem e6_14 : Tab.fn a6 14 = F14 := rfl
def F6 : Vx.Fn := Vx.Fd t6 (Tab.fn a6)
theorem g6 : Vx.Good Try.prog True_ 6 s6 F6 := good_of_tree hm hI (Tab.Good.cons g7 (Tab.Good.cons g18 (Tab.Good.cons g8 (Tab.Good.cons g10 (Tab.Good.cons g22 (Tab.Good.cons g12 (Tab.Good.cons g25 (Tab.Good.cons g14 Tab.Good.nil)))))))) H6 hs 6 Try.func6 rfl (by kernel_rfl) x6
end Go.Proofs.Ythmiladfdndciaa.XTypBack

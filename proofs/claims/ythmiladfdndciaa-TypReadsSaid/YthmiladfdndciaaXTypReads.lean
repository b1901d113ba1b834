/-
  The trees of tests of the functions that TypReads reaches, that each is its code's, and what each function answers.
-/
import Derived.Test.YthmiladfdndciaaVx
import Derived.Test.YthmiladfdndciaaProg
namespace Go.Proofs.Ythmiladfdndciaa.XTypReads
open Go.Proofs.Ythmiladfdndciaa.Vx
set_option maxRecDepth 100000
def True_ : World → Prop := fun _ => True
theorem hI : ∀ (M : Nat → Prop) (w w' : World), True_ w → Vx.Bel M w w' → True_ w' := fun _ _ _ _ _ => trivial
theorem hm : Try.prog.follows .mixedOrders = true := by kernel_rfl
def hs : List (Nat × Hint) := []
/-! trammel/leb.most -/
def s44 : Sig := ⟨[(.v (.i .i64))], [(.v (.i .i64))]⟩
def H44 : Hint := ⟨[], [], [], 12, false⟩
def t44 : Vx.T := (.ret [(.ar .quo .i64 (.ar .add .i64 (.iv 0) (.n 6)) (.n 7))] [] [])
def a44 : Tab := []
theorem x44 : sxFn Try.prog (Tab.sig a44) (inlN Try.prog (Tab.sig a44) (hintOf hs) 6) H44 Try.f44 (Try.f44.body.getD .skip) s44 = t44 := by kernel_rfl
def F44 : Vx.Fn := Vx.Fd t44 (Tab.fn a44)
theorem g44 : Vx.Good Try.prog True_ 44 s44 F44 := good_of_tree hm hI Tab.Good.nil H44 hs 6 Try.func44 rfl (by kernel_rfl) x44
/-! trammel/leb.raw -/
def s42 : Sig := ⟨[(.v (.lf [(.i .u8)])), (.v (.i .i64))], [(.v (.i .u64)), (.v (.i .u8)), (.v (.i .i64)), (.v (.i .i64))]⟩
def H42 : Hint := ⟨[], [(6, some ⟨[(4, false, [.i .u64]), (5, false, [.i .u8]), (6, false, [.i .i64]), (7, false, [.i .i64]), (8, false, [.i .u64]), (19, false, [.i .i64])], [], [], [9, 10, 20, 21, 22, 23, 24, 25, 26, 27, 28, 29, 30, 31, 32, 33, 34, 35, 36, 37, 38, 39, 40, 41, 42, 43, 44], [], []⟩)], [], 12, false⟩
def l42_1 : Vx.T := (.ite (.cm .lss (.iv 6) (.ln 0)) (.rq (.cm .geq (.iv 6) (.n 0)) (.rq (.cm .geq (.cv .u64 (.ar .mul .i64 (.n 7) (.iv 6))) (.n 0)) (.li (.ar .shl .u64 (.cv .u64 (.ar .and .u8 (.ix 0 (.iv 6) 0) (.n 127))) (.cv .u64 (.ar .mul .i64 (.n 7) (.iv 6)))) (.ite (.cm .lss (.ix 0 (.iv 6) 0) (.n 128)) (.rt (.ret [(.ar .or .u64 (.iv 5) (.iv 7)), (.ix 0 (.iv 6) 0), (.ar .add .i64 (.iv 6) (.n 1)), (.n 0)] [] [])) (.call 44 [(.iv 0)] [] [] 1 0 0 (.ite (.cm .eql (.ar .add .i64 (.iv 6) (.n 1)) (.iv 8)) (.rt (.ret [(.n 0), (.n 0), (.n 0), (.n 2)] [] [])) (.nxt [(.iv 1), (.iv 2), (.iv 3), (.iv 4), (.ar .or .u64 (.iv 5) (.iv 7)), (.ar .add .i64 (.iv 6) (.n 1))] [] []))))))) (.brk 2 [(.iv 1), (.iv 2), (.iv 3), (.iv 4), (.iv 5), (.iv 6)] [] []))
def k42_2 : Vx.T := (.rq (.cm .eql (.iv 1) (.n 2)) (.ret [(.n 0), (.n 0), (.n 0), (.n 1)] [] []))
def t42 : Vx.T := (.lb (.oo (.cm .lss (.iv 0) (.n 1)) (.cm .gtr (.iv 0) (.n 64))) (.ite (.bv 0) (.ret [(.n 0), (.n 0), (.n 0), (.n 5)] [] []) (.lp [(.n 0), (.n 0), (.n 0), (.n 0), (.n 0), (.n 0)] [] [] 6 0 0 l42_1 k42_2)))
def a42 : Tab := [⟨44, s44, F44⟩]
theorem x42 : sxFn Try.prog (Tab.sig a42) (inlN Try.prog (Tab.sig a42) (hintOf hs) 6) H42 Try.f42 (Try.f42.body.getD .skip) s42 = t42 := by kernel_rfl
theorem e42_44 : Tab.fn a42 44 = F44 := rfl
def F42 : Vx.Fn := Vx.Fd t42 (Tab.fn a42)
theorem g42 : Vx.Good Try.prog True_ 42 s42 F42 := good_of_tree hm hI (Tab.Good.cons g44 Tab.Good.nil) H42 hs 6 Try.func42 rfl (by kernel_rfl) x42
/-! trammel/leb.U -/
def s31 : Sig := ⟨[(.v (.lf [(.i .u8)])), (.v (.i .i64))], [(.v (.i .u64)), (.v (.i .i64)), (.v (.i .i64))]⟩
def H31 : Hint := ⟨[], [], [], 12, false⟩
def t31 : Vx.T := (.call 42 [(.iv 0)] [] [(.v 0)] 4 0 0 (.ite (.cm .neq (.iv 4) (.n 0)) (.ret [(.n 0), (.n 0), (.iv 4)] [] []) (.li (.ar .sub .i64 (.iv 0) (.ar .mul .i64 (.n 7) (.ar .sub .i64 (.iv 3) (.n 1)))) (.rq (.oo (.nt (.cm .lss (.iv 5) (.n 7))) (.cm .geq (.cv .u64 (.iv 5)) (.n 0))) (.lb (.an (.cm .lss (.iv 5) (.n 7)) (.cm .neq (.ar .shr .u8 (.iv 2) (.cv .u64 (.iv 5))) (.n 0))) (.ite (.bv 0) (.ret [(.n 0), (.n 0), (.n 2)] [] []) (.ret [(.iv 1), (.iv 3), (.n 0)] [] [])))))))
def a31 : Tab := [⟨42, s42, F42⟩]
theorem x31 : sxFn Try.prog (Tab.sig a31) (inlN Try.prog (Tab.sig a31) (hintOf hs) 6) H31 Try.f31 (Try.f31.body.getD .skip) s31 = t31 := by kernel_rfl
theorem e31_42 : Tab.fn a31 42 = F42 := rfl
def F31 : Vx.Fn := Vx.Fd t31 (Tab.fn a31)
theorem g31 : Vx.Good Try.prog True_ 31 s31 F31 := good_of_tree hm hI (Tab.Good.cons g42 Tab.Good.nil) H31 hs 6 Try.func31 rfl (by kernel_rfl) x31
/-! trammel/typ.Val -/
def s16 : Sig := ⟨[(.v (.lf [(.i .u8)]))], [(.v (.i .i64)), (.v (.i .i64)), (.v (.i .i64))]⟩
def H16 : Hint := ⟨[], [], [], 12, false⟩
def t16 : Vx.T := (.ite (.cm .eql (.ln 0) (.n 0)) (.ret [(.n 0), (.n 0), (.n 1)] [] []) (.rq (.cm .lss (.n 0) (.ln 0)) (.ite (.cm .eql (.ix 0 (.n 0) 0) (.n 127)) (.ite (.cm .eql (.ix 0 (.n 0) 0) (.n 127)) (.ret [(.cv .i64 (.ix 0 (.n 0) 0)), (.n 1), (.n 0)] [] []) (.ite (.cm .eql (.ix 0 (.n 0) 0) (.n 125)) (.ite (.cm .eql (.ix 0 (.n 0) 0) (.n 125)) (.ret [(.n 0), (.n 0), (.n 3)] [] []) (.ret [(.n 0), (.n 0), (.n 2)] [] [])) (.ite (.cm .eql (.ix 0 (.n 0) 0) (.n 124)) (.ite (.cm .eql (.ix 0 (.n 0) 0) (.n 124)) (.ret [(.n 0), (.n 0), (.n 3)] [] []) (.ret [(.n 0), (.n 0), (.n 2)] [] [])) (.ite (.cm .eql (.ix 0 (.n 0) 0) (.n 123)) (.ite (.cm .eql (.ix 0 (.n 0) 0) (.n 123)) (.ret [(.n 0), (.n 0), (.n 3)] [] []) (.ret [(.n 0), (.n 0), (.n 2)] [] [])) (.ite (.cm .eql (.ix 0 (.n 0) 0) (.n 112)) (.ite (.cm .eql (.ix 0 (.n 0) 0) (.n 112)) (.ret [(.n 0), (.n 0), (.n 3)] [] []) (.ret [(.n 0), (.n 0), (.n 2)] [] [])) (.ite (.cm .eql (.ix 0 (.n 0) 0) (.n 111)) (.ret [(.n 0), (.n 0), (.n 3)] [] []) (.ret [(.n 0), (.n 0), (.n 2)] [] []))))))) (.ite (.cm .eql (.ix 0 (.n 0) 0) (.n 126)) (.ret [(.cv .i64 (.ix 0 (.n 0) 0)), (.n 1), (.n 0)] [] []) (.ite (.cm .eql (.ix 0 (.n 0) 0) (.n 125)) (.ite (.cm .eql (.ix 0 (.n 0) 0) (.n 125)) (.ret [(.n 0), (.n 0), (.n 3)] [] []) (.ret [(.n 0), (.n 0), (.n 2)] [] [])) (.ite (.cm .eql (.ix 0 (.n 0) 0) (.n 124)) (.ite (.cm .eql (.ix 0 (.n 0) 0) (.n 124)) (.ret [(.n 0), (.n 0), (.n 3)] [] []) (.ret [(.n 0), (.n 0), (.n 2)] [] [])) (.ite (.cm .eql (.ix 0 (.n 0) 0) (.n 123)) (.ite (.cm .eql (.ix 0 (.n 0) 0) (.n 123)) (.ret [(.n 0), (.n 0), (.n 3)] [] []) (.ret [(.n 0), (.n 0), (.n 2)] [] [])) (.ite (.cm .eql (.ix 0 (.n 0) 0) (.n 112)) (.ite (.cm .eql (.ix 0 (.n 0) 0) (.n 112)) (.ret [(.n 0), (.n 0), (.n 3)] [] []) (.ret [(.n 0), (.n 0), (.n 2)] [] [])) (.ite (.cm .eql (.ix 0 (.n 0) 0) (.n 111)) (.ret [(.n 0), (.n 0), (.n 3)] [] []) (.ret [(.n 0), (.n 0), (.n 2)] [] []))))))))))
def a16 : Tab := []
theorem x16 : sxFn Try.prog (Tab.sig a16) (inlN Try.prog (Tab.sig a16) (hintOf hs) 6) H16 Try.f16 (Try.f16.body.getD .skip) s16 = t16 := by kernel_rfl
def F16 : Vx.Fn := Vx.Fd t16 (Tab.fn a16)
theorem g16 : Vx.Good Try.prog True_ 16 s16 F16 := good_of_tree hm hI Tab.Good.nil H16 hs 6 Try.func16 rfl (by kernel_rfl) x16
/-! trammel/typ.vals -/
def s28 : Sig := ⟨[(.v (.lf [(.i .u8)]))], [(.v (.lo 3 [(.i .i64)])), (.v (.i .i64)), (.v (.i .i64))]⟩
def H28 : Hint := ⟨[], [(9, some ⟨[(2, false, [.lo 3 [(.i .i64)]]), (3, false, [.i .i64]), (4, false, [.i .i64]), (6, false, [.i .i64]), (8, false, [.lo 3 [(.i .i64)]]), (24, false, [.i .u64])], [], [], [9, 10, 11, 25, 26, 27, 28, 29, 30, 31, 32, 33, 34, 35, 36, 37, 38, 39, 40, 41, 42, 43, 44], [], []⟩)], [], 12, false⟩
def l28_1 : Vx.T := (.ite (.cm .lss (.iv 6) (.iv 0)) (.rq (.an (.cm .leq (.n 0) (.iv 5)) (.an (.cm .leq (.iv 5) (.ln 0)) (.cm .leq (.ln 0) (.ln 0)))) (.lst [(.cut (.v 0) (.iv 5) (.ln 0))] (.call 16 [] [] [(.v 3)] 3 0 0 (.ite (.cm .neq (.iv 9) (.n 0)) (.rt (.ret [(.n 0), (.iv 9)] [] [.nil])) (.lst [(.els [[(.i (.iv 7))]])] (.rq (.an (.cm .leq (.ln 2) (.n 3909374676536)) (.cm .leq (.ln 4) (.n 3909374676536))) (.lst [(.ap (.v 2) (.v 4))] (.nxt [(.iv 3), (.iv 4), (.ar .add .i64 (.iv 5) (.iv 8)), (.ar .add .u64 (.iv 6) (.n 1))] [] [(.v 1), (.v 5)])))))))) (.brk 2 [(.iv 3), (.iv 4), (.iv 5), (.iv 6)] [] [(.v 1), (.v 2)]))
def k28_2 : Vx.T := (.rq (.cm .eql (.iv 3) (.n 2)) (.ret [(.iv 6), (.n 0)] [] [(.v 2)]))
def t28 : Vx.T := (.call 31 [(.n 32)] [] [(.v 0)] 3 0 0 (.ite (.cm .neq (.iv 2) (.n 0)) (.ret [(.n 0), (.iv 2)] [] [.nil]) (.ite (.cm .gtr (.iv 0) (.n 8)) (.ret [(.n 0), (.n 4)] [] [.nil]) (.lp [(.n 0), (.n 0), (.iv 1), (.n 0)] [] [.nil, .nil] 4 0 2 l28_1 k28_2))))
def a28 : Tab := [⟨31, s31, F31⟩, ⟨16, s16, F16⟩]
theorem x28 : sxFn Try.prog (Tab.sig a28) (inlN Try.prog (Tab.sig a28) (hintOf hs) 6) H28 Try.f28 (Try.f28.body.getD .skip) s28 = t28 := by kernel_rfl
theorem e28_31 : Tab.fn a28 31 = F31 := rfl
theorem e28_16 : Tab.fn a28 16 = F16 := rfl
def F28 : Vx.Fn := Vx.Fd t28 (Tab.fn a28)
theorem g28 : Vx.Good Try.prog True_ 28 s28 F28 := good_of_tree hm hI (Tab.Good.cons g31 (Tab.Good.cons g16 Tab.Good.nil)) H28 hs 6 Try.func28 rfl (by kernel_rfl) x28
/-! trammel/typ.Func -/
def s8 : Sig := ⟨[(.v (.lf [(.i .u8)]))], [(.agg [(.lo 3 [(.i .i64)]), (.lo 3 [(.i .i64)])]), (.v (.i .i64)), (.v (.i .i64))]⟩
def H8 : Hint := ⟨[], [], [], 12, false⟩
def t8 : Vx.T := (.ite (.cm .eql (.ln 0) (.n 0)) (.ret [(.n 0), (.n 1)] [] [.nil, .nil]) (.rq (.cm .lss (.n 0) (.ln 0)) (.ite (.cm .neq (.ix 0 (.n 0) 0) (.n 96)) (.ret [(.n 0), (.n 2)] [] [.nil, .nil]) (.rq (.an (.cm .leq (.n 1) (.ln 0)) (.cm .leq (.ln 0) (.ln 0))) (.lst [(.cut (.v 0) (.n 1) (.ln 0))] (.call 28 [] [] [(.v 1)] 2 0 1 (.ite (.cm .neq (.iv 1) (.n 0)) (.ret [(.n 0), (.iv 1)] [] [.nil, .nil]) (.rq (.an (.cm .leq (.n 0) (.ar .add .i64 (.n 1) (.iv 0))) (.an (.cm .leq (.ar .add .i64 (.n 1) (.iv 0)) (.ln 0)) (.cm .leq (.ln 0) (.ln 0)))) (.lst [(.cut (.v 0) (.ar .add .i64 (.n 1) (.iv 0)) (.ln 0))] (.call 28 [] [] [(.v 3)] 2 0 1 (.ite (.cm .neq (.iv 3) (.n 0)) (.ret [(.n 0), (.iv 3)] [] [.nil, .nil]) (.ret [(.ar .add .i64 (.ar .add .i64 (.n 1) (.iv 0)) (.iv 2)), (.n 0)] [] [(.v 2), (.v 4)]))))))))))))
def a8 : Tab := [⟨28, s28, F28⟩]
theorem x8 : sxFn Try.prog (Tab.sig a8) (inlN Try.prog (Tab.sig a8) (hintOf hs) 6) H8 Try.f8 (Try.f8.body.getD .skip) s8 = t8 := by kernel_rfl
theorem e8_28 : Tab.fn a8 28 = F28 := rfl
def F8 : Vx.Fn := Vx.Fd t8 (Tab.fn a8)
theorem g8 : Vx.Good Try.prog True_ 8 s8 F8 := good_of_tree hm hI (Tab.Good.cons g28 Tab.Good.nil) H8 hs 6 Try.func8 rfl (by kernel_rfl) x8
/-! trammel/leb.S -/
def s33 : Sig := ⟨[(.v (.lf [(.i .u8)])), (.v (.i .i64))], [(.v (.i .i64)), (.v (.i .i64)), (.v (.i .i64))]⟩
def H33 : Hint := ⟨[], [], [], 12, false⟩
def t33 : Vx.T := (.call 42 [(.iv 0)] [] [(.v 0)] 4 0 0 (.ite (.cm .neq (.iv 4) (.n 0)) (.ret [(.n 0), (.n 0), (.iv 4)] [] []) (.li (.ar .sub .i64 (.iv 0) (.ar .mul .i64 (.n 7) (.ar .sub .i64 (.iv 3) (.n 1)))) (.ite (.cm .lss (.iv 5) (.n 7)) (.rq (.cm .geq (.cv .u64 (.ar .sub .i64 (.iv 5) (.n 1))) (.n 0)) (.lb (.cm .neq (.ar .shr .u8 (.iv 2) (.cv .u64 (.ar .sub .i64 (.iv 5) (.n 1)))) (.n 0)) (.rq (.oo (.nt (.bv 0)) (.cm .geq (.cv .u64 (.ar .sub .i64 (.iv 5) (.n 1))) (.n 0))) (.lb (.cm .neq (.ar .shr .u8 (.iv 2) (.cv .u64 (.ar .sub .i64 (.iv 5) (.n 1)))) (.ar .shr .u8 (.n 127) (.cv .u64 (.ar .sub .i64 (.iv 5) (.n 1))))) (.ite (.an (.bv 0) (.bv 1)) (.ret [(.n 0), (.n 0), (.n 2)] [] []) (.lb (.an (.cm .lss (.ar .mul .i64 (.n 7) (.iv 3)) (.n 64)) (.cm .neq (.ar .and .u8 (.iv 2) (.n 64)) (.n 0))) (.ite (.bv 2) (.rq (.cm .geq (.cv .u64 (.ar .mul .i64 (.n 7) (.iv 3))) (.n 0)) (.li (.ar .or .u64 (.iv 1) (.ar .shl .u64 (.n 18446744073709551615) (.cv .u64 (.ar .mul .i64 (.n 7) (.iv 3))))) (.ret [(.cv .i64 (.iv 6)), (.iv 3), (.n 0)] [] []))) (.ret [(.cv .i64 (.iv 1)), (.iv 3), (.n 0)] [] [])))))))) (.lb (.an (.cm .lss (.ar .mul .i64 (.n 7) (.iv 3)) (.n 64)) (.cm .neq (.ar .and .u8 (.iv 2) (.n 64)) (.n 0))) (.ite (.bv 0) (.rq (.cm .geq (.cv .u64 (.ar .mul .i64 (.n 7) (.iv 3))) (.n 0)) (.li (.ar .or .u64 (.iv 1) (.ar .shl .u64 (.n 18446744073709551615) (.cv .u64 (.ar .mul .i64 (.n 7) (.iv 3))))) (.ret [(.cv .i64 (.iv 6)), (.iv 3), (.n 0)] [] []))) (.ret [(.cv .i64 (.iv 1)), (.iv 3), (.n 0)] [] [])))))))
def a33 : Tab := [⟨42, s42, F42⟩]
theorem x33 : sxFn Try.prog (Tab.sig a33) (inlN Try.prog (Tab.sig a33) (hintOf hs) 6) H33 Try.f33 (Try.f33.body.getD .skip) s33 = t33 := by kernel_rfl
theorem e33_42 : Tab.fn a33 42 = F42 := rfl
def F33 : Vx.Fn := Vx.Fd t33 (Tab.fn a33)
theorem g33 : Vx.Good Try.prog True_ 33 s33 F33 := good_of_tree hm hI (Tab.Good.cons g42 Tab.Good.nil) H33 hs 6 Try.func33 rfl (by kernel_rfl) x33
/-! trammel/typ.Block -/
def s14 : Sig := ⟨[(.v (.lf [(.i .u8)]))], [(.v (.i .i64)), (.v (.i .i64)), (.v (.i .i64))]⟩
def H14 : Hint := ⟨[], [], [], 12, false⟩
def t14 : Vx.T := (.rq (.oo (.nt (.cm .gtr (.ln 0) (.n 0))) (.cm .lss (.n 0) (.ln 0))) (.ite (.cm .gtr (.ln 0) (.n 0)) (.rq (.cm .lss (.n 0) (.ln 0)) (.ite (.cm .eql (.ix 0 (.n 0) 0) (.n 64)) (.ret [(.n (-64)), (.n 1), (.n 0)] [] []) (.call 16 [] [] [(.v 0)] 3 0 0 (.ite (.cm .neq (.iv 2) (.n 2)) (.ite (.cm .neq (.iv 2) (.n 0)) (.ret [(.n 0), (.n 0), (.iv 2)] [] []) (.ret [(.ar .sub .i64 (.iv 0) (.n 128)), (.n 1), (.n 0)] [] [])) (.call 33 [(.n 33)] [] [(.v 0)] 3 0 0 (.ite (.cm .neq (.iv 5) (.n 0)) (.ret [(.n 0), (.n 0), (.iv 5)] [] []) (.ite (.cm .lss (.iv 3) (.n 0)) (.ret [(.n 0), (.n 0), (.n 2)] [] []) (.ret [(.iv 3), (.iv 4), (.n 0)] [] [])))))))) (.call 16 [] [] [(.v 0)] 3 0 0 (.ite (.cm .neq (.iv 2) (.n 2)) (.ite (.cm .neq (.iv 2) (.n 0)) (.ret [(.n 0), (.n 0), (.iv 2)] [] []) (.ret [(.ar .sub .i64 (.iv 0) (.n 128)), (.n 1), (.n 0)] [] [])) (.call 33 [(.n 33)] [] [(.v 0)] 3 0 0 (.ite (.cm .neq (.iv 5) (.n 0)) (.ret [(.n 0), (.n 0), (.iv 5)] [] []) (.ite (.cm .lss (.iv 3) (.n 0)) (.ret [(.n 0), (.n 0), (.n 2)] [] []) (.ret [(.iv 3), (.iv 4), (.n 0)] [] []))))))))
def a14 : Tab := [⟨16, s16, F16⟩, ⟨33, s33, F33⟩]
theorem x14 : sxFn Try.prog (Tab.sig a14) (inlN Try.prog (Tab.sig a14) (hintOf hs) 6) H14 Try.f14 (Try.f14.body.getD .skip) s14 = t14 := by kernel_rfl
theorem e14_16 : Tab.fn a14 16 = F16 := rfl
theorem e14_33 : Tab.fn a14 33 = F33 := rfl
def F14 : Vx.Fn := Vx.Fd t14 (Tab.fn a14)
theorem g14 : Vx.Good Try.prog True_ 14 s14 F14 := good_of_tree hm hI (Tab.Good.cons g16 (Tab.Good.cons g33 Tab.Good.nil)) H14 hs 6 Try.func14 rfl (by kernel_rfl) x14
/-! trammel/trammellaw05.awake -/
def s7 : Sig := ⟨[], [(.v .b)]⟩
def H7 : Hint := ⟨[], [], [], 12, false⟩
def t7 : Vx.T := (.lst [(.els [[(.i (.n 96))], [(.i (.n 2))], [(.i (.n 127))], [(.i (.n 126))], [(.i (.n 1))], [(.i (.n 127))], [(.i (.n 9))]])] (.call 8 [] [] [(.v 0)] 2 0 2 (.lst [(.els [[(.i (.n 64))]])] (.call 14 [] [] [(.v 3)] 3 0 0 (.lb (.an (.cm .eql (.iv 1) (.n 0)) (.cm .eql (.iv 0) (.n 6))) (.rq (.oo (.nt (.an (.bv 0) (.cm .eql (.ln 1) (.n 2)))) (.cm .lss (.n 1) (.ln 1))) (.ite (.an (.bv 0) (.cm .eql (.ln 1) (.n 2))) (.rq (.cm .lss (.n 1) (.ln 1)) (.lb (.an (.cm .eql (.ix 1 (.n 1) 0) (.n 126)) (.cm .eql (.iv 4) (.n 0))) (.ret [] [(.an (.bv 1) (.cm .eql (.iv 2) (.n (-64))))] []))) (.ret [] [(.t false)] []))))))))
def a7 : Tab := [⟨8, s8, F8⟩, ⟨14, s14, F14⟩]
theorem x7 : sxFn Try.prog (Tab.sig a7) (inlN Try.prog (Tab.sig a7) (hintOf hs) 6) H7 Try.f7 (Try.f7.body.getD .skip) s7 = t7 := by kernel_rfl
theorem e7_8 : Tab.fn a7 8 = F8 := rfl
theorem e7_14 : Tab.fn a7 14 = F14 := rfl
def F7 : Vx.Fn := Vx.Fd t7 (Tab.fn a7)
theorem g7 : Vx.Good Try.prog True_ 7 s7 F7 := good_of_tree hm hI (Tab.Good.cons g8 (Tab.Good.cons g14 Tab.Good.nil)) H7 hs 6 Try.func7 rfl (by kernel_rfl) x7
/-! trammel/trammelref01.most -/
def s45 : Sig := ⟨[(.v (.i .i64))], [(.v (.i .i64))]⟩
def H45 : Hint := ⟨[], [(3, some ⟨[(3, false, [.i .i64])], [], [], [4, 5, 6, 7, 8, 9], [], []⟩)], [], 12, false⟩
def l45_1 : Vx.T := (.ite (.cm .lss (.ar .mul .i64 (.n 7) (.iv 1)) (.iv 0)) (.nxt [(.ar .add .i64 (.iv 1) (.n 1))] [] []) (.brk 2 [(.iv 1)] [] []))
def k45_2 : Vx.T := (.rq (.cm .eql (.iv 1) (.n 2)) (.ret [(.iv 2)] [] []))
def t45 : Vx.T := (.lp [(.n 0)] [] [] 1 0 0 l45_1 k45_2)
def a45 : Tab := []
theorem x45 : sxFn Try.prog (Tab.sig a45) (inlN Try.prog (Tab.sig a45) (hintOf hs) 6) H45 Try.f45 (Try.f45.body.getD .skip) s45 = t45 := by kernel_rfl
def F45 : Vx.Fn := Vx.Fd t45 (Tab.fn a45)
theorem g45 : Vx.Good Try.prog True_ 45 s45 F45 := good_of_tree hm hI Tab.Good.nil H45 hs 6 Try.func45 rfl (by kernel_rfl) x45
/-! trammel/trammelref01.Read -/
def s43 : Sig := ⟨[(.v (.lf [(.i .u8)])), (.v (.i .i64))], [(.v (.lo 4 [.b])), (.v (.i .i64)), (.v (.i .i64))]⟩
def H43 : Hint := ⟨[], [(6, some ⟨[(4, false, [.lo 4 [.b]]), (5, false, [.i .i64]), (6, false, [.i .i64]), (7, false, [.lo 4 [.b]]), (8, false, [.i .i64])], [], [], [9, 16, 17, 18, 19, 20, 21, 22, 23, 24, 25, 26, 27, 28, 29, 30, 31, 32, 33, 34, 35, 36, 37, 38, 39, 40, 41, 42, 43, 44, 45, 46, 47, 48, 49], [], []⟩), (11, some ⟨[(7, false, [.lo 4 [.b]]), (9, false, [.i .i64])], [], [], [26, 27, 28, 29, 30, 31, 32, 33, 34, 35, 36, 37, 38, 39, 40, 41], [], [2]⟩)], [], 12, false⟩
def l43_1 : Vx.T := (.ite (.cm .lss (.iv 5) (.n 7)) (.rq (.an (.cm .geq (.iv 3) (.n 0)) (.cm .lss (.iv 3) (.ln 0))) (.rq (.an (.cm .geq (.iv 3) (.n 0)) (.cm .lss (.iv 3) (.ln 0))) (.rq (.cm .geq (.cv .u64 (.iv 5)) (.n 0)) (.li (.ar .rem .u8 (.ar .shr .u8 (.ix 0 (.iv 3) 0) (.cv .u64 (.iv 5))) (.n 2)) (.lst [(.els [[(.b (.cm .eql (.iv 6) (.n 1)))]])] (.rq (.an (.cm .leq (.ln 3) (.n 17592186044416)) (.cm .leq (.ln 4) (.n 17592186044416))) (.lst [(.ap (.v 3) (.v 4))] (.nxt [(.ar .add .i64 (.iv 5) (.n 1))] [] [(.v 5)])))))))) (.brk 4 [(.iv 5)] [] [(.v 3)]))
def k43_2 : Vx.T := (.rq (.cm .eql (.iv 5) (.n 4)) (.rq (.an (.cm .geq (.iv 3) (.n 0)) (.cm .lss (.iv 3) (.ln 0))) (.rq (.an (.cm .geq (.iv 3) (.n 0)) (.cm .lss (.iv 3) (.ln 0))) (.ite (.cm .lss (.ix 0 (.iv 3) 0) (.n 128)) (.rt (.ret [(.ar .add .i64 (.iv 3) (.n 1)), (.n 0)] [] [(.v 3)])) (.nxt [(.iv 1), (.iv 2), (.ar .add .i64 (.iv 3) (.n 1))] [] [(.v 1), (.v 3)])))))
def l43_3 : Vx.T := (.call 45 [(.iv 0)] [] [] 1 0 0 (.ite (.cm .lss (.iv 3) (.iv 4)) (.ite (.cm .geq (.iv 3) (.ln 0)) (.rt (.ret [(.n 0), (.n 1)] [] [.nil])) (.lp [(.n 0)] [] [(.v 2)] 1 0 1 l43_1 k43_2)) (.brk 2 [(.iv 1), (.iv 2), (.iv 3)] [] [(.v 1), (.v 2)])))
def k43_4 : Vx.T := (.rq (.cm .eql (.iv 1) (.n 2)) (.ret [(.n 0), (.n 2)] [] [.nil]))
def t43 : Vx.T := (.lb (.oo (.cm .lss (.iv 0) (.n 1)) (.cm .gtr (.iv 0) (.n 64))) (.ite (.bv 0) (.ret [(.n 0), (.n 5)] [] [.nil]) (.lp [(.n 0), (.n 0), (.n 0)] [] [.nil, .nil] 3 0 2 l43_3 k43_4)))
def a43 : Tab := [⟨45, s45, F45⟩]
theorem x43 : sxFn Try.prog (Tab.sig a43) (inlN Try.prog (Tab.sig a43) (hintOf hs) 6) H43 Try.f43 (Try.f43.body.getD .skip) s43 = t43 := by kernel_rfl
theorem e43_45 : Tab.fn a43 45 = F45 := rfl
def F43 : Vx.Fn := Vx.Fd t43 (Tab.fn a43)
theorem g43 : Vx.Good Try.prog True_ 43 s43 F43 := good_of_tree hm hI (Tab.Good.cons g45 Tab.Good.nil) H43 hs 6 Try.func43 rfl (by kernel_rfl) x43
/-! trammel/trammelref01.U -/
def s32 : Sig := ⟨[(.v (.lf [(.i .u8)])), (.v (.i .i64))], [(.v (.i .u64)), (.v (.i .i64)), (.v (.i .i64))]⟩
def H32 : Hint := ⟨[], [(7, some ⟨[(4, false, [.i .u64]), (5, false, [.i .i64]), (6, false, [.i .i64]), (10, false, [.i .u64]), (11, false, [.i .i64])], [], [], [22, 23, 24, 25, 26, 27, 28, 29, 30, 31, 32, 33, 34, 35, 36, 37, 38, 39, 40], [], []⟩)], [], 12, false⟩
def l32_1 : Vx.T := (.ite (.cm .lss (.iv 7) (.ln 1)) (.rq (.cm .geq (.iv 7) (.n 0)) (.ite (.nt (.bx 1 (.iv 7) 0)) (.nxt [(.iv 3), (.iv 4), (.iv 5), (.iv 6), (.ar .add .i64 (.iv 7) (.n 1))] [] []) (.ite (.cm .geq (.iv 7) (.iv 0)) (.rt (.ret [(.n 0), (.n 0), (.n 2)] [] [])) (.rq (.cm .geq (.cv .u64 (.iv 7)) (.n 0)) (.nxt [(.iv 3), (.iv 4), (.iv 5), (.ar .add .u64 (.iv 6) (.ar .shl .u64 (.n 1) (.cv .u64 (.iv 7)))), (.ar .add .i64 (.iv 7) (.n 1))] [] []))))) (.brk 2 [(.iv 3), (.iv 4), (.iv 5), (.iv 6), (.iv 7)] [] []))
def k32_2 : Vx.T := (.rq (.cm .eql (.iv 3) (.n 2)) (.ret [(.iv 7), (.iv 1), (.n 0)] [] []))
def t32 : Vx.T := (.call 43 [(.iv 0)] [] [(.v 0)] 2 0 1 (.ite (.cm .neq (.iv 2) (.n 0)) (.ret [(.n 0), (.n 0), (.iv 2)] [] []) (.lp [(.n 0), (.n 0), (.n 0), (.n 0), (.n 0)] [] [] 5 0 0 l32_1 k32_2)))
def a32 : Tab := [⟨43, s43, F43⟩]
theorem x32 : sxFn Try.prog (Tab.sig a32) (inlN Try.prog (Tab.sig a32) (hintOf hs) 6) H32 Try.f32 (Try.f32.body.getD .skip) s32 = t32 := by kernel_rfl
theorem e32_43 : Tab.fn a32 43 = F43 := rfl
def F32 : Vx.Fn := Vx.Fd t32 (Tab.fn a32)
theorem g32 : Vx.Good Try.prog True_ 32 s32 F32 := good_of_tree hm hI (Tab.Good.cons g43 Tab.Good.nil) H32 hs 6 Try.func32 rfl (by kernel_rfl) x32
/-! trammel/trammelref05.Val -/
def s17 : Sig := ⟨[(.v (.i .u8))], [(.v (.i .i64)), (.v (.i .i64))]⟩
def H17 : Hint := ⟨[], [], [], 12, false⟩
def t17 : Vx.T := (.lb (.oo (.cm .eql (.iv 0) (.n 127)) (.cm .eql (.iv 0) (.n 126))) (.ite (.bv 0) (.ret [(.cv .i64 (.iv 0)), (.n 0)] [] []) (.lb (.oo (.cm .eql (.iv 0) (.n 125)) (.cm .eql (.iv 0) (.n 124))) (.lb (.oo (.oo (.bv 1) (.cm .eql (.iv 0) (.n 123))) (.cm .eql (.iv 0) (.n 112))) (.ite (.oo (.bv 2) (.cm .eql (.iv 0) (.n 111))) (.ret [(.n 0), (.n 3)] [] []) (.ret [(.n 0), (.n 2)] [] []))))))
def a17 : Tab := []
theorem x17 : sxFn Try.prog (Tab.sig a17) (inlN Try.prog (Tab.sig a17) (hintOf hs) 6) H17 Try.f17 (Try.f17.body.getD .skip) s17 = t17 := by kernel_rfl
def F17 : Vx.Fn := Vx.Fd t17 (Tab.fn a17)
theorem g17 : Vx.Good Try.prog True_ 17 s17 F17 := good_of_tree hm hI Tab.Good.nil H17 hs 6 Try.func17 rfl (by kernel_rfl) x17
/-! trammel/trammelref05.vals -/
def s30 : Sig := ⟨[(.v (.lf [(.i .u8)])), (.v (.i .i64))], [(.v (.lo 3 [(.i .i64)])), (.v (.i .i64)), (.v (.i .i64))]⟩
def H30 : Hint := ⟨[], [(9, some ⟨[(1, false, [.i .i64]), (4, false, [.lo 3 [(.i .i64)]]), (5, false, [.i .i64]), (6, false, [.i .i64]), (10, false, [.lo 3 [(.i .i64)]])], [], [], [11, 12, 29, 30, 31, 32, 33, 34, 35, 36, 37, 38, 39, 40, 41, 42, 43, 44, 45, 46, 47, 48, 49, 50, 51, 52, 53, 54], [], []⟩)], [], 12, false⟩
def l30_1 : Vx.T := (.ite (.cm .lss (.ln 3) (.cv .i64 (.iv 1))) (.ite (.cm .geq (.iv 4) (.ln 0)) (.rt (.ret [(.n 0), (.n 1)] [] [.nil])) (.rq (.an (.cm .geq (.iv 4) (.n 0)) (.cm .lss (.iv 4) (.ln 0))) (.rq (.an (.cm .geq (.iv 4) (.n 0)) (.cm .lss (.iv 4) (.ln 0))) (.call 17 [(.ix 0 (.iv 4) 0)] [] [] 2 0 0 (.ite (.cm .neq (.iv 8) (.n 0)) (.rt (.ret [(.n 0), (.iv 8)] [] [.nil])) (.lst [(.els [[(.i (.iv 7))]])] (.rq (.an (.cm .leq (.ln 3) (.n 3909374676536)) (.cm .leq (.ln 4) (.n 3909374676536))) (.lst [(.ap (.v 3) (.v 4))] (.nxt [(.ar .add .i64 (.iv 4) (.n 1)), (.iv 5), (.iv 6)] [] [(.v 2), (.v 5)]))))))))) (.brk 2 [(.iv 4), (.iv 5), (.iv 6)] [] [(.v 2), (.v 3)]))
def k30_2 : Vx.T := (.rq (.cm .eql (.iv 4) (.n 2)) (.ret [(.iv 5), (.n 0)] [] [(.v 3)]))
def t30 : Vx.T := (.rq (.an (.cm .leq (.n 0) (.iv 0)) (.an (.cm .leq (.iv 0) (.ln 0)) (.cm .leq (.ln 0) (.ln 0)))) (.lst [(.cut (.v 0) (.iv 0) (.ln 0))] (.call 32 [(.n 32)] [] [(.v 1)] 3 0 0 (.ite (.cm .neq (.iv 3) (.n 0)) (.ret [(.n 0), (.iv 3)] [] [.nil]) (.ite (.cm .gtr (.iv 1) (.n 8)) (.ret [(.n 0), (.n 4)] [] [.nil]) (.lp [(.ar .add .i64 (.iv 0) (.iv 2)), (.n 0), (.n 0)] [] [.nil, .nil] 3 0 2 l30_1 k30_2))))))
def a30 : Tab := [⟨32, s32, F32⟩, ⟨17, s17, F17⟩]
theorem x30 : sxFn Try.prog (Tab.sig a30) (inlN Try.prog (Tab.sig a30) (hintOf hs) 6) H30 Try.f30 (Try.f30.body.getD .skip) s30 = t30 := by kernel_rfl
theorem e30_32 : Tab.fn a30 32 = F32 := rfl
theorem e30_17 : Tab.fn a30 17 = F17 := rfl
def F30 : Vx.Fn := Vx.Fd t30 (Tab.fn a30)
theorem g30 : Vx.Good Try.prog True_ 30 s30 F30 := good_of_tree hm hI (Tab.Good.cons g32 (Tab.Good.cons g17 Tab.Good.nil)) H30 hs 6 Try.func30 rfl (by kernel_rfl) x30
/-! trammel/trammelref05.Func -/
def s11 : Sig := ⟨[(.v (.lf [(.i .u8)]))], [(.agg [(.lo 3 [(.i .i64)]), (.lo 3 [(.i .i64)])]), (.v (.i .i64)), (.v (.i .i64))]⟩
def H11 : Hint := ⟨[], [], [], 12, false⟩
def t11 : Vx.T := (.ite (.cm .lss (.ln 0) (.n 1)) (.ret [(.n 0), (.n 1)] [] [.nil, .nil]) (.rq (.cm .lss (.n 0) (.ln 0)) (.ite (.cm .neq (.ix 0 (.n 0) 0) (.n 96)) (.ret [(.n 0), (.n 2)] [] [.nil, .nil]) (.call 30 [(.n 1)] [] [(.v 0)] 2 0 1 (.ite (.cm .neq (.iv 1) (.n 0)) (.ret [(.n 0), (.iv 1)] [] [.nil, .nil]) (.call 30 [(.iv 0)] [] [(.v 0)] 2 0 1 (.ite (.cm .neq (.iv 3) (.n 0)) (.ret [(.n 0), (.iv 3)] [] [.nil, .nil]) (.ret [(.iv 2), (.n 0)] [] [(.v 1), (.v 2)]))))))))
def a11 : Tab := [⟨30, s30, F30⟩]
theorem x11 : sxFn Try.prog (Tab.sig a11) (inlN Try.prog (Tab.sig a11) (hintOf hs) 6) H11 Try.f11 (Try.f11.body.getD .skip) s11 = t11 := by kernel_rfl
theorem e11_30 : Tab.fn a11 30 = F30 := rfl
def F11 : Vx.Fn := Vx.Fd t11 (Tab.fn a11)
theorem g11 : Vx.Good Try.prog True_ 11 s11 F11 := good_of_tree hm hI (Tab.Good.cons g30 Tab.Good.nil) H11 hs 6 Try.func11 rfl (by kernel_rfl) x11
/-! trammel/trammelref05.SameInts -/
def s29 : Sig := ⟨[(.v (.lf [(.i .i64)])), (.v (.lf [(.i .i64)]))], [(.v .b)]⟩
def H29 : Hint := ⟨[], [(5, some ⟨[(4, false, [.b]), (5, false, [.i .i64])], [], [], [11, 12, 13, 14, 15, 16, 17, 18, 19, 20, 21, 22, 23, 24, 25], [], []⟩)], [], 12, false⟩
def l29_1 : Vx.T := (.ite (.cm .lss (.iv 0) (.ln 0)) (.rq (.cm .geq (.iv 0) (.n 0)) (.rq (.cm .lss (.iv 0) (.ln 1)) (.ite (.cm .neq (.ix 0 (.iv 0) 0) (.ix 1 (.iv 0) 0)) (.rt (.ret [] [(.t false)] [])) (.nxt [(.ar .add .i64 (.iv 0) (.n 1))] [(.bv 0)] [])))) (.brk 2 [(.iv 0)] [(.bv 0)] []))
def k29_2 : Vx.T := (.rq (.cm .eql (.iv 0) (.n 2)) (.ret [] [(.t true)] []))
def t29 : Vx.T := (.ite (.cm .neq (.ln 0) (.ln 1)) (.ret [] [(.t false)] []) (.lp [(.n 0)] [(.t false)] [] 1 1 0 l29_1 k29_2))
def a29 : Tab := []
theorem x29 : sxFn Try.prog (Tab.sig a29) (inlN Try.prog (Tab.sig a29) (hintOf hs) 6) H29 Try.f29 (Try.f29.body.getD .skip) s29 = t29 := by kernel_rfl
def F29 : Vx.Fn := Vx.Fd t29 (Tab.fn a29)
theorem g29 : Vx.Good Try.prog True_ 29 s29 F29 := good_of_tree hm hI Tab.Good.nil H29 hs 6 Try.func29 rfl (by kernel_rfl) x29
/-! trammel/trammelref05.Same -/
def s10 : Sig := ⟨[(.agg [(.lf [(.i .i64)]), (.lf [(.i .i64)])]), (.agg [(.lf [(.i .i64)]), (.lf [(.i .i64)])])], [(.v .b)]⟩
def H10 : Hint := ⟨[], [], [], 12, false⟩
def t10 : Vx.T := (.call 29 [] [] [(.v 0), (.v 2)] 0 1 0 (.ite (.bv 0) (.call 29 [] [] [(.v 1), (.v 3)] 0 1 0 (.ret [] [(.bv 1)] [])) (.ret [] [(.t false)] [])))
def a10 : Tab := [⟨29, s29, F29⟩]
theorem x10 : sxFn Try.prog (Tab.sig a10) (inlN Try.prog (Tab.sig a10) (hintOf hs) 6) H10 Try.f10 (Try.f10.body.getD .skip) s10 = t10 := by kernel_rfl
theorem e10_29 : Tab.fn a10 29 = F29 := rfl
def F10 : Vx.Fn := Vx.Fd t10 (Tab.fn a10)
theorem g10 : Vx.Good Try.prog True_ 10 s10 F10 := good_of_tree hm hI (Tab.Good.cons g29 Tab.Good.nil) H10 hs 6 Try.func10 rfl (by kernel_rfl) x10
/-! trammel/typ.Limits -/
def s12 : Sig := ⟨[(.v (.lf [(.i .u8)]))], [(.agg [(.i .i64), .b, (.i .i64)]), (.v (.i .i64)), (.v (.i .i64))]⟩
def H12 : Hint := ⟨[], [], [], 12, false⟩
def t12 : Vx.T := (.ite (.cm .eql (.ln 0) (.n 0)) (.ret [(.n 0), (.n 0), (.n 0), (.n 1)] [(.t false)] []) (.rq (.cm .lss (.n 0) (.ln 0)) (.ite (.cm .gtr (.ix 0 (.n 0) 0) (.n 1)) (.ret [(.n 0), (.n 0), (.n 0), (.n 2)] [(.t false)] []) (.rq (.an (.cm .leq (.n 1) (.ln 0)) (.cm .leq (.ln 0) (.ln 0))) (.lst [(.cut (.v 0) (.n 1) (.ln 0))] (.call 31 [(.n 32)] [] [(.v 1)] 3 0 0 (.rq (.oo (.cm .neq (.iv 2) (.n 0)) (.cm .lss (.n 0) (.ln 0))) (.ite (.nt (.cm .neq (.iv 2) (.n 0))) (.ite (.cm .eql (.ix 0 (.n 0) 0) (.n 0)) (.ite (.cm .neq (.iv 2) (.n 0)) (.ret [(.n 0), (.n 0), (.n 0), (.iv 2)] [(.t false)] []) (.ret [(.cv .i64 (.iv 0)), (.n 0), (.ar .add .i64 (.n 1) (.iv 1)), (.n 0)] [(.t false)] [])) (.rq (.an (.cm .leq (.n 0) (.ar .add .i64 (.n 1) (.iv 1))) (.an (.cm .leq (.ar .add .i64 (.n 1) (.iv 1)) (.ln 0)) (.cm .leq (.ln 0) (.ln 0)))) (.lst [(.cut (.v 0) (.ar .add .i64 (.n 1) (.iv 1)) (.ln 0))] (.call 31 [(.n 32)] [] [(.v 2)] 3 0 0 (.ite (.cm .neq (.iv 5) (.n 0)) (.ret [(.n 0), (.n 0), (.n 0), (.iv 5)] [(.t false)] []) (.ret [(.cv .i64 (.iv 0)), (.cv .i64 (.iv 3)), (.ar .add .i64 (.ar .add .i64 (.n 1) (.iv 1)) (.iv 4)), (.n 0)] [(.t true)] [])))))) (.ite (.cm .neq (.iv 2) (.n 0)) (.ret [(.n 0), (.n 0), (.n 0), (.iv 2)] [(.t false)] []) (.ret [(.cv .i64 (.iv 0)), (.n 0), (.ar .add .i64 (.n 1) (.iv 1)), (.n 0)] [(.t false)] []))))))))))
def a12 : Tab := [⟨31, s31, F31⟩]
theorem x12 : sxFn Try.prog (Tab.sig a12) (inlN Try.prog (Tab.sig a12) (hintOf hs) 6) H12 Try.f12 (Try.f12.body.getD .skip) s12 = t12 := by kernel_rfl
theorem e12_31 : Tab.fn a12 31 = F31 := rfl
def F12 : Vx.Fn := Vx.Fd t12 (Tab.fn a12)
theorem g12 : Vx.Good Try.prog True_ 12 s12 F12 := good_of_tree hm hI (Tab.Good.cons g31 Tab.Good.nil) H12 hs 6 Try.func12 rfl (by kernel_rfl) x12
/-! trammel/trammelref05.Limits -/
def s13 : Sig := ⟨[(.v (.lf [(.i .u8)]))], [(.agg [(.i .i64), .b, (.i .i64)]), (.v (.i .i64)), (.v (.i .i64))]⟩
def H13 : Hint := ⟨[], [], [9], 12, false⟩
def t13 : Vx.T := (.ite (.cm .lss (.ln 0) (.n 1)) (.ret [(.n 0), (.n 0), (.n 0), (.n 1)] [(.t false)] []) (.rq (.cm .lss (.n 0) (.ln 0)) (.rq (.oo (.nt (.cm .neq (.ix 0 (.n 0) 0) (.n 0))) (.cm .lss (.n 0) (.ln 0))) (.ite (.cm .neq (.ix 0 (.n 0) 0) (.n 0)) (.ite (.cm .neq (.ix 0 (.n 0) 0) (.n 1)) (.ret [(.n 0), (.n 0), (.n 0), (.n 2)] [(.t false)] []) (.ite (.cm .leq (.n 0) (.cv .i64 (.ix 0 (.n 0) 0))) (.rq (.an (.cm .leq (.n 1) (.ln 0)) (.cm .leq (.ln 0) (.ln 0))) (.lst [(.cut (.v 0) (.n 1) (.ln 0))] (.call 32 [(.n 32)] [] [(.v 1)] 3 0 0 (.ite (.cm .neq (.iv 2) (.n 0)) (.ret [(.n 0), (.n 0), (.n 0), (.iv 2)] [(.t false)] []) (.ite (.cm .leq (.n 1) (.cv .i64 (.ix 0 (.n 0) 0))) (.rq (.an (.cm .leq (.n 0) (.ar .add .i64 (.n 1) (.iv 1))) (.an (.cm .leq (.ar .add .i64 (.n 1) (.iv 1)) (.ln 0)) (.cm .leq (.ln 0) (.ln 0)))) (.lst [(.cut (.v 0) (.ar .add .i64 (.n 1) (.iv 1)) (.ln 0))] (.call 32 [(.n 32)] [] [(.v 2)] 3 0 0 (.ite (.cm .neq (.iv 5) (.n 0)) (.ret [(.n 0), (.n 0), (.n 0), (.iv 5)] [(.t false)] []) (.ite (.cm .leq (.n 2) (.cv .i64 (.ix 0 (.n 0) 0))) (.rq (.an (.cm .leq (.n 0) (.ar .add .i64 (.ar .add .i64 (.n 1) (.iv 1)) (.iv 4))) (.an (.cm .leq (.ar .add .i64 (.ar .add .i64 (.n 1) (.iv 1)) (.iv 4)) (.ln 0)) (.cm .leq (.ln 0) (.ln 0)))) (.lst [(.cut (.v 0) (.ar .add .i64 (.ar .add .i64 (.n 1) (.iv 1)) (.iv 4)) (.ln 0))] (.call 32 [(.n 32)] [] [(.v 3)] 3 0 0 (.ite (.cm .neq (.iv 8) (.n 0)) (.ret [(.n 0), (.n 0), (.n 0), (.iv 8)] [(.t false)] []) (.fail 6))))) (.both (.both (.ret [(.cv .i64 (.iv 0)), (.cv .i64 (.iv 3)), (.ar .add .i64 (.ar .add .i64 (.n 1) (.iv 1)) (.iv 4)), (.n 0)] [(.cm .eql (.ix 0 (.n 0) 0) (.n 1))] []) (.ret [(.cv .i64 (.iv 0)), (.cv .i64 (.iv 3)), (.ar .add .i64 (.ar .add .i64 (.n 1) (.iv 1)) (.iv 4)), (.n 0)] [(.cm .eql (.ix 0 (.n 0) 0) (.n 1))] [])) (.ret [(.cv .i64 (.iv 0)), (.cv .i64 (.iv 3)), (.ar .add .i64 (.ar .add .i64 (.n 1) (.iv 1)) (.iv 4)), (.n 0)] [(.cm .eql (.ix 0 (.n 0) 0) (.n 1))] []))))))) (.both (.both (.ret [(.cv .i64 (.iv 0)), (.n 0), (.ar .add .i64 (.n 1) (.iv 1)), (.n 0)] [(.cm .eql (.ix 0 (.n 0) 0) (.n 1))] []) (.ret [(.cv .i64 (.iv 0)), (.n 0), (.ar .add .i64 (.n 1) (.iv 1)), (.n 0)] [(.cm .eql (.ix 0 (.n 0) 0) (.n 1))] [])) (.ret [(.cv .i64 (.iv 0)), (.n 0), (.ar .add .i64 (.n 1) (.iv 1)), (.n 0)] [(.cm .eql (.ix 0 (.n 0) 0) (.n 1))] []))))))) (.both (.both (.ret [(.n 0), (.n 0), (.n 1), (.n 0)] [(.cm .eql (.ix 0 (.n 0) 0) (.n 1))] []) (.ret [(.n 0), (.n 0), (.n 1), (.n 0)] [(.cm .eql (.ix 0 (.n 0) 0) (.n 1))] [])) (.ret [(.n 0), (.n 0), (.n 1), (.n 0)] [(.cm .eql (.ix 0 (.n 0) 0) (.n 1))] [])))) (.ite (.cm .leq (.n 0) (.cv .i64 (.ix 0 (.n 0) 0))) (.rq (.an (.cm .leq (.n 1) (.ln 0)) (.cm .leq (.ln 0) (.ln 0))) (.lst [(.cut (.v 0) (.n 1) (.ln 0))] (.call 32 [(.n 32)] [] [(.v 1)] 3 0 0 (.ite (.cm .neq (.iv 2) (.n 0)) (.ret [(.n 0), (.n 0), (.n 0), (.iv 2)] [(.t false)] []) (.ite (.cm .leq (.n 1) (.cv .i64 (.ix 0 (.n 0) 0))) (.rq (.an (.cm .leq (.n 0) (.ar .add .i64 (.n 1) (.iv 1))) (.an (.cm .leq (.ar .add .i64 (.n 1) (.iv 1)) (.ln 0)) (.cm .leq (.ln 0) (.ln 0)))) (.lst [(.cut (.v 0) (.ar .add .i64 (.n 1) (.iv 1)) (.ln 0))] (.call 32 [(.n 32)] [] [(.v 2)] 3 0 0 (.ite (.cm .neq (.iv 5) (.n 0)) (.ret [(.n 0), (.n 0), (.n 0), (.iv 5)] [(.t false)] []) (.ite (.cm .leq (.n 2) (.cv .i64 (.ix 0 (.n 0) 0))) (.rq (.an (.cm .leq (.n 0) (.ar .add .i64 (.ar .add .i64 (.n 1) (.iv 1)) (.iv 4))) (.an (.cm .leq (.ar .add .i64 (.ar .add .i64 (.n 1) (.iv 1)) (.iv 4)) (.ln 0)) (.cm .leq (.ln 0) (.ln 0)))) (.lst [(.cut (.v 0) (.ar .add .i64 (.ar .add .i64 (.n 1) (.iv 1)) (.iv 4)) (.ln 0))] (.call 32 [(.n 32)] [] [(.v 3)] 3 0 0 (.ite (.cm .neq (.iv 8) (.n 0)) (.ret [(.n 0), (.n 0), (.n 0), (.iv 8)] [(.t false)] []) (.fail 6))))) (.both (.both (.ret [(.cv .i64 (.iv 0)), (.cv .i64 (.iv 3)), (.ar .add .i64 (.ar .add .i64 (.n 1) (.iv 1)) (.iv 4)), (.n 0)] [(.cm .eql (.ix 0 (.n 0) 0) (.n 1))] []) (.ret [(.cv .i64 (.iv 0)), (.cv .i64 (.iv 3)), (.ar .add .i64 (.ar .add .i64 (.n 1) (.iv 1)) (.iv 4)), (.n 0)] [(.cm .eql (.ix 0 (.n 0) 0) (.n 1))] [])) (.ret [(.cv .i64 (.iv 0)), (.cv .i64 (.iv 3)), (.ar .add .i64 (.ar .add .i64 (.n 1) (.iv 1)) (.iv 4)), (.n 0)] [(.cm .eql (.ix 0 (.n 0) 0) (.n 1))] []))))))) (.both (.both (.ret [(.cv .i64 (.iv 0)), (.n 0), (.ar .add .i64 (.n 1) (.iv 1)), (.n 0)] [(.cm .eql (.ix 0 (.n 0) 0) (.n 1))] []) (.ret [(.cv .i64 (.iv 0)), (.n 0), (.ar .add .i64 (.n 1) (.iv 1)), (.n 0)] [(.cm .eql (.ix 0 (.n 0) 0) (.n 1))] [])) (.ret [(.cv .i64 (.iv 0)), (.n 0), (.ar .add .i64 (.n 1) (.iv 1)), (.n 0)] [(.cm .eql (.ix 0 (.n 0) 0) (.n 1))] []))))))) (.both (.both (.ret [(.n 0), (.n 0), (.n 1), (.n 0)] [(.cm .eql (.ix 0 (.n 0) 0) (.n 1))] []) (.ret [(.n 0), (.n 0), (.n 1), (.n 0)] [(.cm .eql (.ix 0 (.n 0) 0) (.n 1))] [])) (.ret [(.n 0), (.n 0), (.n 1), (.n 0)] [(.cm .eql (.ix 0 (.n 0) 0) (.n 1))] [])))))))
def a13 : Tab := [⟨32, s32, F32⟩]
theorem x13 : sxFn Try.prog (Tab.sig a13) (inlN Try.prog (Tab.sig a13) (hintOf hs) 6) H13 Try.f13 (Try.f13.body.getD .skip) s13 = t13 := by kernel_rfl
theorem e13_32 : Tab.fn a13 32 = F32 := rfl
def F13 : Vx.Fn := Vx.Fd t13 (Tab.fn a13)
theorem g13 : Vx.Good Try.prog True_ 13 s13 F13 := good_of_tree hm hI (Tab.Good.cons g32 Tab.Good.nil) H13 hs 6 Try.func13 rfl (by kernel_rfl) x13
/-! trammel/trammelref01.S -/
def s34 : Sig := ⟨[(.v (.lf [(.i .u8)])), (.v (.i .i64))], [(.v (.i .i64)), (.v (.i .i64)), (.v (.i .i64))]⟩
def H34 : Hint := ⟨[], [(6, some ⟨[(4, false, [.i .i64]), (5, false, [.i .i64]), (6, false, [.i .i64]), (10, false, [.i .i64])], [], [], [25, 26, 27, 28, 29, 30, 31, 32, 33, 34, 35, 36, 37, 38, 39, 40], [], []⟩), (12, some ⟨[(11, false, [.i .i64]), (12, false, [.i .i64])], [], [], [13, 41, 42, 43, 44, 45, 46, 47, 48, 49, 50, 51, 52, 53, 54, 55, 56, 57, 58, 59, 60, 61, 62, 63], [], []⟩)], [], 12, false⟩
def l34_1 : Vx.T := (.ite (.cm .geq (.iv 9) (.n 0)) (.rq (.an (.cm .geq (.ar .sub .i64 (.ln 1) (.n 1)) (.n 0)) (.cm .lss (.ar .sub .i64 (.ln 1) (.n 1)) (.ln 1))) (.rq (.an (.cm .geq (.ar .sub .i64 (.ln 1) (.n 1)) (.n 0)) (.cm .lss (.ar .sub .i64 (.ln 1) (.n 1)) (.ln 1))) (.ite (.cm .lss (.iv 9) (.ln 1)) (.ite (.bx 1 (.iv 9) 0) (.nxt [(.ar .add .i64 (.ar .mul .i64 (.iv 8) (.n 2)) (.n 1)), (.ar .sub .i64 (.iv 9) (.n 1))] [] []) (.nxt [(.ar .mul .i64 (.iv 8) (.n 2)), (.ar .sub .i64 (.iv 9) (.n 1))] [] [])) (.ite (.bx 1 (.ar .sub .i64 (.ln 1) (.n 1)) 0) (.nxt [(.ar .add .i64 (.ar .mul .i64 (.iv 8) (.n 2)) (.n 1)), (.ar .sub .i64 (.iv 9) (.n 1))] [] []) (.nxt [(.ar .mul .i64 (.iv 8) (.n 2)), (.ar .sub .i64 (.iv 9) (.n 1))] [] []))))) (.brk 4 [(.iv 8), (.iv 9)] [] []))
def k34_2 : Vx.T := (.rq (.cm .eql (.iv 8) (.n 4)) (.ret [(.iv 9), (.iv 1), (.n 0)] [] []))
def l34_3 : Vx.T := (.ite (.cm .lss (.iv 6) (.ln 1)) (.rq (.cm .geq (.iv 6) (.n 0)) (.rq (.an (.cm .geq (.ar .sub .i64 (.iv 0) (.n 1)) (.n 0)) (.cm .lss (.ar .sub .i64 (.iv 0) (.n 1)) (.ln 1))) (.rq (.an (.cm .geq (.ar .sub .i64 (.iv 0) (.n 1)) (.n 0)) (.cm .lss (.ar .sub .i64 (.iv 0) (.n 1)) (.ln 1))) (.lb (.nt (.be (.bx 1 (.iv 6) 0) (.bx 1 (.ar .sub .i64 (.iv 0) (.n 1)) 0))) (.ite (.bv 0) (.rt (.ret [(.n 0), (.n 0), (.n 2)] [] [])) (.nxt [(.iv 3), (.iv 4), (.iv 5), (.ar .add .i64 (.iv 6) (.n 1))] [] [])))))) (.brk 2 [(.iv 3), (.iv 4), (.iv 5), (.iv 6)] [] []))
def k34_4 : Vx.T := (.rq (.cm .eql (.iv 3) (.n 2)) (.lp [(.n 0), (.n 63)] [] [] 2 0 0 l34_1 k34_2))
def t34 : Vx.T := (.call 43 [(.iv 0)] [] [(.v 0)] 2 0 1 (.ite (.cm .neq (.iv 2) (.n 0)) (.ret [(.n 0), (.n 0), (.iv 2)] [] []) (.lp [(.n 0), (.n 0), (.n 0), (.iv 0)] [] [] 4 0 0 l34_3 k34_4)))
def a34 : Tab := [⟨43, s43, F43⟩]
theorem x34 : sxFn Try.prog (Tab.sig a34) (inlN Try.prog (Tab.sig a34) (hintOf hs) 6) H34 Try.f34 (Try.f34.body.getD .skip) s34 = t34 := by kernel_rfl
theorem e34_43 : Tab.fn a34 43 = F43 := rfl
def F34 : Vx.Fn := Vx.Fd t34 (Tab.fn a34)
theorem g34 : Vx.Good Try.prog True_ 34 s34 F34 := good_of_tree hm hI (Tab.Good.cons g43 Tab.Good.nil) H34 hs 6 Try.func34 rfl (by kernel_rfl) x34
/-! trammel/trammelref05.Block -/
def s15 : Sig := ⟨[(.v (.lf [(.i .u8)]))], [(.v (.i .i64)), (.v (.i .i64)), (.v (.i .i64))]⟩
def H15 : Hint := ⟨[], [], [], 12, false⟩
def t15 : Vx.T := (.ite (.cm .lss (.ln 0) (.n 1)) (.ret [(.n 0), (.n 0), (.n 1)] [] []) (.rq (.cm .lss (.n 0) (.ln 0)) (.ite (.cm .eql (.ix 0 (.n 0) 0) (.n 64)) (.ret [(.n (-64)), (.n 1), (.n 0)] [] []) (.call 17 [(.ix 0 (.n 0) 0)] [] [] 2 0 0 (.ite (.cm .eql (.iv 1) (.n 3)) (.ret [(.n 0), (.n 0), (.n 3)] [] []) (.ite (.cm .eql (.iv 1) (.n 0)) (.ret [(.ar .sub .i64 (.iv 0) (.n 128)), (.n 1), (.n 0)] [] []) (.call 34 [(.n 33)] [] [(.v 0)] 3 0 0 (.ite (.cm .neq (.iv 4) (.n 0)) (.ret [(.n 0), (.n 0), (.iv 4)] [] []) (.ite (.cm .lss (.iv 2) (.n 0)) (.ret [(.n 0), (.n 0), (.n 2)] [] []) (.ret [(.iv 2), (.iv 3), (.n 0)] [] []))))))))))
def a15 : Tab := [⟨17, s17, F17⟩, ⟨34, s34, F34⟩]
theorem x15 : sxFn Try.prog (Tab.sig a15) (inlN Try.prog (Tab.sig a15) (hintOf hs) 6) H15 Try.f15 (Try.f15.body.getD .skip) s15 = t15 := by kernel_rfl
theorem e15_17 : Tab.fn a15 17 = F17 := rfl
theorem e15_34 : Tab.fn a15 34 = F34 := rfl
def F15 : Vx.Fn := Vx.Fd t15 (Tab.fn a15)
theorem g15 : Vx.Good Try.prog True_ 15 s15 F15 := good_of_tree hm hI (Tab.Good.cons g17 (Tab.Good.cons g34 Tab.Good.nil)) H15 hs 6 Try.func15 rfl (by kernel_rfl) x15
/-! trammel/trammellaw05.TypReads -/
def s4 : Sig := ⟨[(.v (.lf [(.i .u8)]))], [(.v .b)]⟩
def H4 : Hint := ⟨[], [], [], 12, false⟩
def t4 : Vx.T := (.call 7 [] [] [] 0 1 0 (.ite (.nt (.bv 0)) (.ret [] [(.t false)] []) (.rq (.an (.cm .leq (.n 0) (.mn (.ln 0) (.n 300))) (.cm .leq (.mn (.ln 0) (.n 300)) (.ln 0))) (.lst [(.cut (.v 0) (.n 0) (.mn (.ln 0) (.n 300)))] (.call 8 [] [] [(.v 1)] 2 0 2 (.call 11 [] [] [(.v 1)] 2 0 2 (.call 10 [] [] [(.v 2), (.v 3), (.v 4), (.v 5)] 0 1 0 (.lb (.oo (.oo (.nt (.bv 1)) (.cm .neq (.iv 0) (.iv 2))) (.cm .neq (.iv 1) (.iv 3))) (.ite (.bv 2) (.ret [] [(.t false)] []) (.call 12 [] [] [(.v 1)] 4 1 0 (.call 13 [] [] [(.v 1)] 4 1 0 (.lb (.nt (.an (.cm .eql (.iv 4) (.iv 8)) (.an (.be (.bv 3) (.bv 4)) (.cm .eql (.iv 5) (.iv 9))))) (.lb (.oo (.oo (.bv 5) (.cm .neq (.iv 6) (.iv 10))) (.cm .neq (.iv 7) (.iv 11))) (.ite (.bv 6) (.ret [] [(.t false)] []) (.call 14 [] [] [(.v 1)] 3 0 0 (.call 15 [] [] [(.v 1)] 3 0 0 (.lb (.oo (.cm .neq (.iv 12) (.iv 15)) (.cm .neq (.iv 13) (.iv 16))) (.ite (.oo (.bv 7) (.cm .neq (.iv 14) (.iv 17))) (.ret [] [(.t false)] []) (.call 16 [] [] [(.v 1)] 3 0 0 (.ite (.cm .eql (.ln 1) (.n 0)) (.lb (.an (.cm .eql (.iv 20) (.n 1)) (.cm .eql (.iv 18) (.n 0))) (.ret [] [(.an (.bv 8) (.cm .eql (.iv 19) (.n 0)))] [])) (.rq (.cm .lss (.n 0) (.ln 1)) (.call 17 [(.ix 1 (.n 0) 0)] [] [] 2 0 0 (.lb (.an (.cm .eql (.iv 18) (.iv 21)) (.cm .eql (.iv 20) (.iv 22))) (.lb (.be (.cm .eql (.iv 19) (.n 1)) (.cm .eql (.iv 22) (.n 0))) (.ret [] [(.an (.bv 8) (.bv 9))] [])))))))))))))))))))))))))
def a4 : Tab := [⟨7, s7, F7⟩, ⟨8, s8, F8⟩, ⟨11, s11, F11⟩, ⟨10, s10, F10⟩, ⟨12, s12, F12⟩, ⟨13, s13, F13⟩, ⟨14, s14, F14⟩, ⟨15, s15, F15⟩, ⟨16, s16, F16⟩, ⟨17, s17, F17⟩]
theorem x4 : sxFn Try.prog (Tab.sig a4) (inlN Try.prog (Tab.sig a4) (hintOf hs) 6) H4 Try.f4 (Try.f4.body.getD .skip) s4 = t4 := by kernel_rfl
theorem e4_7 : Tab.fn a4 7 = F7 := rfl
theorem e4_8 : Tab.fn a4 8 = F8 := rfl
theorem e4_11 : Tab.fn a4 11 = F11 := rfl
theorem e4_10 : Tab.fn a4 10 = F10 := rfl
theorem e4_12 : Tab.fn a4 12 = F12 := rfl
theorem e4_13 : Tab.fn a4 13 = F13 := rfl
theorem e4_14 : Tab.fn a4 14 = F14 := rfl
theorem e4_15 : Tab.fn a4 15 = F15 := rfl
theorem e4_16 : Tab.fn a4 16 = F16 := rfl
theorem e4_17 : Tab.fn a4 17 = F17 := rfl
def F4 : Vx.Fn := Vx.Fd t4 (Tab.fn a4)
theorem g4 : Vx.Good Try.prog True_ 4 s4 F4 := good_of_tree hm hI (Tab.Good.cons g7 (Tab.Good.cons g8 (Tab.Good.cons g11 (Tab.Good.cons g10 (Tab.Good.cons g12 (Tab.Good.cons g13 (Tab.Good.cons g14 (Tab.Good.cons g15 (Tab.Good.cons g16 (Tab.Good.cons g17 Tab.Good.nil)))))))))) H4 hs 6 Try.func4 rfl (by kernel_rfl) x4
end Go.Proofs.Ythmiladfdndciaa.XTypReads

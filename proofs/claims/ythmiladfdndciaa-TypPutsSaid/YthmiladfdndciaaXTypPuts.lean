/-
  The trees of tests of the functions that TypPuts reaches, that each is its code's, and what each function answers.
-/
import Derived.Test.YthmiladfdndciaaVx
import Derived.Test.YthmiladfdndciaaProg
namespace Go.Proofs.Ythmiladfdndciaa.XTypPuts
open Go.Proofs.Ythmiladfdndciaa.Vx
set_option maxRecDepth 100000
def True_ : World → Prop := fun _ => True
theorem hI : ∀ (M : Nat → Prop) (w w' : World), True_ w → Vx.Bel M w w' → True_ w' := fun _ _ _ _ _ => trivial
theorem hm : Try.prog.follows .mixedOrders = true := by kernel_rfl
theorem gcons {f : Nat} {s : Sig} {F : Vx.Fn} {r : Tab} (h : Vx.Good Try.prog True_ f s F) (t : Tab.Good Try.prog True_ r) : Tab.Good Try.prog True_ (⟨f, s, F⟩ :: r) := Tab.Good.cons (e := ⟨f, s, F⟩) h t
def hs : List (Nat × Hint) := []
/-! trammel/leb.most -/
def s44 : Sig := ⟨[(.v (.i .i64))], [(.v (.i .i64))]⟩
def H44 : Hint := ⟨[], [], [], 12, false⟩
def t44 : Vx.T := (.ret [(.ar .quo .i64 (.ar .add .i64 (.iv 0) (.n 6)) (.n 7))] [] [])
def a44 : Tab := []
theorem x44 : sxFn Try.prog (Tab.sig a44) (inlN Try.prog (Tab.sig a44) (hintOf hs) 6) H44 Try.f44 (Try.f44.body.getD .skip) s44 = t44 := by kernel_rfl
def F44 : Vx.Fn := Vx.Fd t44 (Tab.fn a44)
theorem g44 : Vx.Good Try.prog True_ 44 s44 F44 := good_of_tree hm hI Tab.Good.nil H44 hs 6 Try.func44 rfl (by kernel_rfl) x44
/-! trammel/leb.raw -/
def s42 : Sig := ⟨[(.v (.lf [(.i .u8)])), (.v (.i .i64))], [(.v (.i .u64)), (.v (.i .u8)), (.v (.i .i64)), (.v (.i .i64))]⟩
def H42 : Hint := ⟨[], [(6, some ⟨[(4, false, [.i .u64]), (5, false, [.i .u8]), (6, false, [.i .i64]), (7, false, [.i .i64]), (8, false, [.i .u64]), (19, false, [.i .i64])], [], [], [9, 10, 20, 21, 22, 23, 24, 25, 26, 27, 28, 29, 30, 31, 32, 33, 34, 35, 36, 37, 38, 39, 40, 41, 42, 43, 44], [], []⟩)], [], 12, false⟩
def l42_1 : Vx.T := (.ite (.cm .lss (.iv 6) (.ln 0)) (.rq (.cm .geq (.iv 6) (.n 0)) (.rq (.cm .geq (.cv .u64 (.ar .mul .i64 (.n 7) (.iv 6))) (.n 0)) (.li (.ar .shl .u64 (.cv .u64 (.ar .and .u8 (.ix 0 (.iv 6) 0) (.n 127))) (.cv .u64 (.ar .mul .i64 (.n 7) (.iv 6)))) (.ite (.cm .lss (.ix 0 (.iv 6) 0) (.n 128)) (.rt (.ret [(.ar .or .u64 (.iv 5) (.iv 7)), (.ix 0 (.iv 6) 0), (.ar .add .i64 (.iv 6) (.n 1)), (.n 0)] [] [])) (.call 44 [(.iv 0)] [] [] 1 0 0 (.ite (.cm .eql (.ar .add .i64 (.iv 6) (.n 1)) (.iv 8)) (.rt (.ret [(.n 0), (.n 0), (.n 0), (.n 2)] [] [])) (.nxt [(.iv 1), (.iv 2), (.iv 3), (.iv 4), (.ar .or .u64 (.iv 5) (.iv 7)), (.ar .add .i64 (.iv 6) (.n 1))] [] []))))))) (.brk 2 [(.iv 1), (.iv 2), (.iv 3), (.iv 4), (.iv 5), (.iv 6)] [] []))
def k42_2 : Vx.T := (.rq (.cm .eql (.iv 1) (.n 2)) (.ret [(.n 0), (.n 0), (.n 0), (.n 1)] [] []))
def t42 : Vx.T := (.lb (.oo (.cm .lss (.iv 0) (.n 1)) (.cm .gtr (.iv 0) (.n 64))) (.ite (.bv 0) (.ret [(.n 0), (.n 0), (.n 0), (.n 5)] [] []) (.lp [(.n 0), (.n 0), (.n 0), (.n 0), (.n 0), (.n 0)] [] [] 6 0 0 l42_1 k42_2)))
def a42 : Tab := [⟨44, s44, F44⟩]
theorem x42 : sxFn Try.prog (Tab.sig a42) (inlN Try.prog (Tab.sig a42) (hintOf hs) 6) H42 Try.f42 (Try.f42.body.getD .skip) s42 = t42 := by kernel_rfl
theorem e42_44 : Tab.fn a42 44 = F44 := rfl
def F42 : Vx.Fn := Vx.Fd t42 (Tab.fn a42)
theorem g42 : Vx.Good Try.prog True_ 42 s42 F42 := good_of_tree hm hI (gcons g44 Tab.Good.nil) H42 hs 6 Try.func42 rfl (by kernel_rfl) x42
/-! trammel/leb.U -/
def s31 : Sig := ⟨[(.v (.lf [(.i .u8)])), (.v (.i .i64))], [(.v (.i .u64)), (.v (.i .i64)), (.v (.i .i64))]⟩
def H31 : Hint := ⟨[], [], [], 12, false⟩
def t31 : Vx.T := (.call 42 [(.iv 0)] [] [(.v 0)] 4 0 0 (.ite (.cm .neq (.iv 4) (.n 0)) (.ret [(.n 0), (.n 0), (.iv 4)] [] []) (.li (.ar .sub .i64 (.iv 0) (.ar .mul .i64 (.n 7) (.ar .sub .i64 (.iv 3) (.n 1)))) (.rq (.oo (.nt (.cm .lss (.iv 5) (.n 7))) (.cm .geq (.cv .u64 (.iv 5)) (.n 0))) (.lb (.an (.cm .lss (.iv 5) (.n 7)) (.cm .neq (.ar .shr .u8 (.iv 2) (.cv .u64 (.iv 5))) (.n 0))) (.ite (.bv 0) (.ret [(.n 0), (.n 0), (.n 2)] [] []) (.ret [(.iv 1), (.iv 3), (.n 0)] [] [])))))))
def a31 : Tab := [⟨42, s42, F42⟩]
theorem x31 : sxFn Try.prog (Tab.sig a31) (inlN Try.prog (Tab.sig a31) (hintOf hs) 6) H31 Try.f31 (Try.f31.body.getD .skip) s31 = t31 := by kernel_rfl
theorem e31_42 : Tab.fn a31 42 = F42 := rfl
def F31 : Vx.Fn := Vx.Fd t31 (Tab.fn a31)
theorem g31 : Vx.Good Try.prog True_ 31 s31 F31 := good_of_tree hm hI (gcons g42 Tab.Good.nil) H31 hs 6 Try.func31 rfl (by kernel_rfl) x31
/-! trammel/typ.Val -/
def s16 : Sig := ⟨[(.v (.lf [(.i .u8)]))], [(.v (.i .i64)), (.v (.i .i64)), (.v (.i .i64))]⟩
def H16 : Hint := ⟨[], [], [], 12, false⟩
def t16 : Vx.T := (.ite (.cm .eql (.ln 0) (.n 0)) (.ret [(.n 0), (.n 0), (.n 1)] [] []) (.rq (.cm .lss (.n 0) (.ln 0)) (.ite (.cm .eql (.ix 0 (.n 0) 0) (.n 127)) (.ite (.cm .eql (.ix 0 (.n 0) 0) (.n 127)) (.ret [(.cv .i64 (.ix 0 (.n 0) 0)), (.n 1), (.n 0)] [] []) (.ite (.cm .eql (.ix 0 (.n 0) 0) (.n 125)) (.ite (.cm .eql (.ix 0 (.n 0) 0) (.n 125)) (.ret [(.n 0), (.n 0), (.n 3)] [] []) (.ret [(.n 0), (.n 0), (.n 2)] [] [])) (.ite (.cm .eql (.ix 0 (.n 0) 0) (.n 124)) (.ite (.cm .eql (.ix 0 (.n 0) 0) (.n 124)) (.ret [(.n 0), (.n 0), (.n 3)] [] []) (.ret [(.n 0), (.n 0), (.n 2)] [] [])) (.ite (.cm .eql (.ix 0 (.n 0) 0) (.n 123)) (.ite (.cm .eql (.ix 0 (.n 0) 0) (.n 123)) (.ret [(.n 0), (.n 0), (.n 3)] [] []) (.ret [(.n 0), (.n 0), (.n 2)] [] [])) (.ite (.cm .eql (.ix 0 (.n 0) 0) (.n 112)) (.ite (.cm .eql (.ix 0 (.n 0) 0) (.n 112)) (.ret [(.n 0), (.n 0), (.n 3)] [] []) (.ret [(.n 0), (.n 0), (.n 2)] [] [])) (.ite (.cm .eql (.ix 0 (.n 0) 0) (.n 111)) (.ret [(.n 0), (.n 0), (.n 3)] [] []) (.ret [(.n 0), (.n 0), (.n 2)] [] []))))))) (.ite (.cm .eql (.ix 0 (.n 0) 0) (.n 126)) (.ret [(.cv .i64 (.ix 0 (.n 0) 0)), (.n 1), (.n 0)] [] []) (.ite (.cm .eql (.ix 0 (.n 0) 0) (.n 125)) (.ite (.cm .eql (.ix 0 (.n 0) 0) (.n 125)) (.ret [(.n 0), (.n 0), (.n 3)] [] []) (.ret [(.n 0), (.n 0), (.n 2)] [] [])) (.ite (.cm .eql (.ix 0 (.n 0) 0) (.n 124)) (.ite (.cm .eql (.ix 0 (.n 0) 0) (.n 124)) (.ret [(.n 0), (.n 0), (.n 3)] [] []) (.ret [(.n 0), (.n 0), (.n 2)] [] [])) (.ite (.cm .eql (.ix 0 (.n 0) 0) (.n 123)) (.ite (.cm .eql (.ix 0 (.n 0) 0) (.n 123)) (.ret [(.n 0), (.n 0), (.n 3)] [] []) (.ret [(.n 0), (.n 0), (.n 2)] [] [])) (.ite (.cm .eql (.ix 0 (.n 0) 0) (.n 112)) (.ite (.cm .eql (.ix 0 (.n 0) 0) (.n 112)) (.ret [(.n 0), (.n 0), (.n 3)] [] []) (.ret [(.n 0), (.n 0), (.n 2)] [] [])) (.ite (.cm .eql (.ix 0 (.n 0) 0) (.n 111)) (.ret [(.n 0), (.n 0), (.n 3)] [] []) (.ret [(.n 0), (.n 0), (.n 2)] [] []))))))))))
def a16 : Tab := []
theorem x16 : sxFn Try.prog (Tab.sig a16) (inlN Try.prog (Tab.sig a16) (hintOf hs) 6) H16 Try.f16 (Try.f16.body.getD .skip) s16 = t16 := by kernel_rfl
def F16 : Vx.Fn := Vx.Fd t16 (Tab.fn a16)
theorem g16 : Vx.Good Try.prog True_ 16 s16 F16 := good_of_tree hm hI Tab.Good.nil H16 hs 6 Try.func16 rfl (by kernel_rfl) x16
/-! trammel/typ.vals -/
def s28 : Sig := ⟨[(.v (.lf [(.i .u8)]))], [(.v (.lo 3 [(.i .i64)])), (.v (.i .i64)), (.v (.i .i64))]⟩
def H28 : Hint := ⟨[], [(9, some ⟨[(2, false, [.lo 3 [(.i .i64)]]), (3, false, [.i .i64]), (4, false, [.i .i64]), (6, false, [.i .i64]), (8, false, [.lo 3 [(.i .i64)]]), (24, false, [.i .u64])], [], [], [9, 10, 11, 25, 26, 27, 28, 29, 30, 31, 32, 33, 34, 35, 36, 37, 38, 39, 40, 41, 42, 43, 44], [], []⟩)], [], 12, false⟩
def l28_1 : Vx.T := (.ite (.cm .lss (.iv 6) (.iv 0)) (.rq (.an (.cm .leq (.n 0) (.iv 5)) (.an (.cm .leq (.iv 5) (.ln 0)) (.cm .leq (.ln 0) (.ln 0)))) (.lst [(.cut (.v 0) (.iv 5) (.ln 0))] (.call 16 [] [] [(.v 3)] 3 0 0 (.ite (.cm .neq (.iv 9) (.n 0)) (.rt (.ret [(.n 0), (.iv 9)] [] [.nil])) (.lst [(.els [[(.i (.iv 7))]])] (.rq (.an (.cm .leq (.ln 2) (.n 3909374676536)) (.cm .leq (.ln 4) (.n 3909374676536))) (.lst [(.ap (.v 2) (.v 4))] (.nxt [(.iv 3), (.iv 4), (.ar .add .i64 (.iv 5) (.iv 8)), (.ar .add .u64 (.iv 6) (.n 1))] [] [(.v 1), (.v 5)])))))))) (.brk 2 [(.iv 3), (.iv 4), (.iv 5), (.iv 6)] [] [(.v 1), (.v 2)]))
def k28_2 : Vx.T := (.rq (.cm .eql (.iv 3) (.n 2)) (.ret [(.iv 6), (.n 0)] [] [(.v 2)]))
def t28 : Vx.T := (.call 31 [(.n 32)] [] [(.v 0)] 3 0 0 (.ite (.cm .neq (.iv 2) (.n 0)) (.ret [(.n 0), (.iv 2)] [] [.nil]) (.ite (.cm .gtr (.iv 0) (.n 8)) (.ret [(.n 0), (.n 4)] [] [.nil]) (.lp [(.n 0), (.n 0), (.iv 1), (.n 0)] [] [.nil, .nil] 4 0 2 l28_1 k28_2))))
def a28 : Tab := [⟨31, s31, F31⟩, ⟨16, s16, F16⟩]
theorem x28 : sxFn Try.prog (Tab.sig a28) (inlN Try.prog (Tab.sig a28) (hintOf hs) 6) H28 Try.f28 (Try.f28.body.getD .skip) s28 = t28 := by kernel_rfl
theorem e28_31 : Tab.fn a28 31 = F31 := rfl
theorem e28_16 : Tab.fn a28 16 = F16 := rfl
def F28 : Vx.Fn := Vx.Fd t28 (Tab.fn a28)
theorem g28 : Vx.Good Try.prog True_ 28 s28 F28 := good_of_tree hm hI (gcons g31 (gcons g16 Tab.Good.nil)) H28 hs 6 Try.func28 rfl (by kernel_rfl) x28
/-! trammel/typ.Func -/
def s8 : Sig := ⟨[(.v (.lf [(.i .u8)]))], [(.agg [(.lo 3 [(.i .i64)]), (.lo 3 [(.i .i64)])]), (.v (.i .i64)), (.v (.i .i64))]⟩
def H8 : Hint := ⟨[], [], [], 12, false⟩
def t8 : Vx.T := (.ite (.cm .eql (.ln 0) (.n 0)) (.ret [(.n 0), (.n 1)] [] [.nil, .nil]) (.rq (.cm .lss (.n 0) (.ln 0)) (.ite (.cm .neq (.ix 0 (.n 0) 0) (.n 96)) (.ret [(.n 0), (.n 2)] [] [.nil, .nil]) (.rq (.an (.cm .leq (.n 1) (.ln 0)) (.cm .leq (.ln 0) (.ln 0))) (.lst [(.cut (.v 0) (.n 1) (.ln 0))] (.call 28 [] [] [(.v 1)] 2 0 1 (.ite (.cm .neq (.iv 1) (.n 0)) (.ret [(.n 0), (.iv 1)] [] [.nil, .nil]) (.rq (.an (.cm .leq (.n 0) (.ar .add .i64 (.n 1) (.iv 0))) (.an (.cm .leq (.ar .add .i64 (.n 1) (.iv 0)) (.ln 0)) (.cm .leq (.ln 0) (.ln 0)))) (.lst [(.cut (.v 0) (.ar .add .i64 (.n 1) (.iv 0)) (.ln 0))] (.call 28 [] [] [(.v 3)] 2 0 1 (.ite (.cm .neq (.iv 3) (.n 0)) (.ret [(.n 0), (.iv 3)] [] [.nil, .nil]) (.ret [(.ar .add .i64 (.ar .add .i64 (.n 1) (.iv 0)) (.iv 2)), (.n 0)] [] [(.v 2), (.v 4)]))))))))))))
def a8 : Tab := [⟨28, s28, F28⟩]
theorem x8 : sxFn Try.prog (Tab.sig a8) (inlN Try.prog (Tab.sig a8) (hintOf hs) 6) H8 Try.f8 (Try.f8.body.getD .skip) s8 = t8 := by kernel_rfl
theorem e8_28 : Tab.fn a8 28 = F28 := rfl
def F8 : Vx.Fn := Vx.Fd t8 (Tab.fn a8)
theorem g8 : Vx.Good Try.prog True_ 8 s8 F8 := good_of_tree hm hI (gcons g28 Tab.Good.nil) H8 hs 6 Try.func8 rfl (by kernel_rfl) x8
/-! trammel/leb.S -/
def s33 : Sig := ⟨[(.v (.lf [(.i .u8)])), (.v (.i .i64))], [(.v (.i .i64)), (.v (.i .i64)), (.v (.i .i64))]⟩
def H33 : Hint := ⟨[], [], [], 12, false⟩
def t33 : Vx.T := (.call 42 [(.iv 0)] [] [(.v 0)] 4 0 0 (.ite (.cm .neq (.iv 4) (.n 0)) (.ret [(.n 0), (.n 0), (.iv 4)] [] []) (.li (.ar .sub .i64 (.iv 0) (.ar .mul .i64 (.n 7) (.ar .sub .i64 (.iv 3) (.n 1)))) (.ite (.cm .lss (.iv 5) (.n 7)) (.rq (.cm .geq (.cv .u64 (.ar .sub .i64 (.iv 5) (.n 1))) (.n 0)) (.lb (.cm .neq (.ar .shr .u8 (.iv 2) (.cv .u64 (.ar .sub .i64 (.iv 5) (.n 1)))) (.n 0)) (.rq (.oo (.nt (.bv 0)) (.cm .geq (.cv .u64 (.ar .sub .i64 (.iv 5) (.n 1))) (.n 0))) (.lb (.cm .neq (.ar .shr .u8 (.iv 2) (.cv .u64 (.ar .sub .i64 (.iv 5) (.n 1)))) (.ar .shr .u8 (.n 127) (.cv .u64 (.ar .sub .i64 (.iv 5) (.n 1))))) (.ite (.an (.bv 0) (.bv 1)) (.ret [(.n 0), (.n 0), (.n 2)] [] []) (.lb (.an (.cm .lss (.ar .mul .i64 (.n 7) (.iv 3)) (.n 64)) (.cm .neq (.ar .and .u8 (.iv 2) (.n 64)) (.n 0))) (.ite (.bv 2) (.rq (.cm .geq (.cv .u64 (.ar .mul .i64 (.n 7) (.iv 3))) (.n 0)) (.li (.ar .or .u64 (.iv 1) (.ar .shl .u64 (.n 18446744073709551615) (.cv .u64 (.ar .mul .i64 (.n 7) (.iv 3))))) (.ret [(.cv .i64 (.iv 6)), (.iv 3), (.n 0)] [] []))) (.ret [(.cv .i64 (.iv 1)), (.iv 3), (.n 0)] [] [])))))))) (.lb (.an (.cm .lss (.ar .mul .i64 (.n 7) (.iv 3)) (.n 64)) (.cm .neq (.ar .and .u8 (.iv 2) (.n 64)) (.n 0))) (.ite (.bv 0) (.rq (.cm .geq (.cv .u64 (.ar .mul .i64 (.n 7) (.iv 3))) (.n 0)) (.li (.ar .or .u64 (.iv 1) (.ar .shl .u64 (.n 18446744073709551615) (.cv .u64 (.ar .mul .i64 (.n 7) (.iv 3))))) (.ret [(.cv .i64 (.iv 6)), (.iv 3), (.n 0)] [] []))) (.ret [(.cv .i64 (.iv 1)), (.iv 3), (.n 0)] [] [])))))))
def a33 : Tab := [⟨42, s42, F42⟩]
theorem x33 : sxFn Try.prog (Tab.sig a33) (inlN Try.prog (Tab.sig a33) (hintOf hs) 6) H33 Try.f33 (Try.f33.body.getD .skip) s33 = t33 := by kernel_rfl
theorem e33_42 : Tab.fn a33 42 = F42 := rfl
def F33 : Vx.Fn := Vx.Fd t33 (Tab.fn a33)
theorem g33 : Vx.Good Try.prog True_ 33 s33 F33 := good_of_tree hm hI (gcons g42 Tab.Good.nil) H33 hs 6 Try.func33 rfl (by kernel_rfl) x33
/-! trammel/typ.Block -/
def s14 : Sig := ⟨[(.v (.lf [(.i .u8)]))], [(.v (.i .i64)), (.v (.i .i64)), (.v (.i .i64))]⟩
def H14 : Hint := ⟨[], [], [], 12, false⟩
def t14 : Vx.T := (.rq (.oo (.nt (.cm .gtr (.ln 0) (.n 0))) (.cm .lss (.n 0) (.ln 0))) (.ite (.cm .gtr (.ln 0) (.n 0)) (.rq (.cm .lss (.n 0) (.ln 0)) (.ite (.cm .eql (.ix 0 (.n 0) 0) (.n 64)) (.ret [(.n (-64)), (.n 1), (.n 0)] [] []) (.call 16 [] [] [(.v 0)] 3 0 0 (.ite (.cm .neq (.iv 2) (.n 2)) (.ite (.cm .neq (.iv 2) (.n 0)) (.ret [(.n 0), (.n 0), (.iv 2)] [] []) (.ret [(.ar .sub .i64 (.iv 0) (.n 128)), (.n 1), (.n 0)] [] [])) (.call 33 [(.n 33)] [] [(.v 0)] 3 0 0 (.ite (.cm .neq (.iv 5) (.n 0)) (.ret [(.n 0), (.n 0), (.iv 5)] [] []) (.ite (.cm .lss (.iv 3) (.n 0)) (.ret [(.n 0), (.n 0), (.n 2)] [] []) (.ret [(.iv 3), (.iv 4), (.n 0)] [] [])))))))) (.call 16 [] [] [(.v 0)] 3 0 0 (.ite (.cm .neq (.iv 2) (.n 2)) (.ite (.cm .neq (.iv 2) (.n 0)) (.ret [(.n 0), (.n 0), (.iv 2)] [] []) (.ret [(.ar .sub .i64 (.iv 0) (.n 128)), (.n 1), (.n 0)] [] [])) (.call 33 [(.n 33)] [] [(.v 0)] 3 0 0 (.ite (.cm .neq (.iv 5) (.n 0)) (.ret [(.n 0), (.n 0), (.iv 5)] [] []) (.ite (.cm .lss (.iv 3) (.n 0)) (.ret [(.n 0), (.n 0), (.n 2)] [] []) (.ret [(.iv 3), (.iv 4), (.n 0)] [] []))))))))
def a14 : Tab := [⟨16, s16, F16⟩, ⟨33, s33, F33⟩]
theorem x14 : sxFn Try.prog (Tab.sig a14) (inlN Try.prog (Tab.sig a14) (hintOf hs) 6) H14 Try.f14 (Try.f14.body.getD .skip) s14 = t14 := by kernel_rfl
theorem e14_16 : Tab.fn a14 16 = F16 := rfl
theorem e14_33 : Tab.fn a14 33 = F33 := rfl
def F14 : Vx.Fn := Vx.Fd t14 (Tab.fn a14)
theorem g14 : Vx.Good Try.prog True_ 14 s14 F14 := good_of_tree hm hI (gcons g16 (gcons g33 Tab.Good.nil)) H14 hs 6 Try.func14 rfl (by kernel_rfl) x14
/-! trammel/trammellaw05.awake -/
def s7 : Sig := ⟨[], [(.v .b)]⟩
def H7 : Hint := ⟨[], [], [], 12, false⟩
def t7 : Vx.T := (.lst [(.els [[(.i (.n 96))], [(.i (.n 2))], [(.i (.n 127))], [(.i (.n 126))], [(.i (.n 1))], [(.i (.n 127))], [(.i (.n 9))]])] (.call 8 [] [] [(.v 0)] 2 0 2 (.lst [(.els [[(.i (.n 64))]])] (.call 14 [] [] [(.v 3)] 3 0 0 (.lb (.an (.cm .eql (.iv 1) (.n 0)) (.cm .eql (.iv 0) (.n 6))) (.rq (.oo (.nt (.an (.bv 0) (.cm .eql (.ln 1) (.n 2)))) (.cm .lss (.n 1) (.ln 1))) (.ite (.an (.bv 0) (.cm .eql (.ln 1) (.n 2))) (.rq (.cm .lss (.n 1) (.ln 1)) (.lb (.an (.cm .eql (.ix 1 (.n 1) 0) (.n 126)) (.cm .eql (.iv 4) (.n 0))) (.ret [] [(.an (.bv 1) (.cm .eql (.iv 2) (.n (-64))))] []))) (.ret [] [(.t false)] []))))))))
def a7 : Tab := [⟨8, s8, F8⟩, ⟨14, s14, F14⟩]
theorem x7 : sxFn Try.prog (Tab.sig a7) (inlN Try.prog (Tab.sig a7) (hintOf hs) 6) H7 Try.f7 (Try.f7.body.getD .skip) s7 = t7 := by kernel_rfl
theorem e7_8 : Tab.fn a7 8 = F8 := rfl
theorem e7_14 : Tab.fn a7 14 = F14 := rfl
def F7 : Vx.Fn := Vx.Fd t7 (Tab.fn a7)
theorem g7 : Vx.Good Try.prog True_ 7 s7 F7 := good_of_tree hm hI (gcons g8 (gcons g14 Tab.Good.nil)) H7 hs 6 Try.func7 rfl (by kernel_rfl) x7
/-! slices.Clone[[]byte,byte] -/
def s36 : Sig := ⟨[(.v (.lf [(.i .u8)]))], [(.v (.lo 5 [(.i .u8)]))]⟩
def H36 : Hint := ⟨[], [], [], 12, false⟩
def t36 : Vx.T := (.nz 0 (.ret [] [] [.nil]) (.lst [(.els [])] (.rq (.an (.cm .leq (.ln 1) (.n 17592186044416)) (.cm .leq (.ln 0) (.n 17592186044416))) (.lst [(.ap (.v 1) (.v 0))] (.ret [] [] [(.v 2)])))))
def a36 : Tab := []
theorem x36 : sxFn Try.prog (Tab.sig a36) (inlN Try.prog (Tab.sig a36) (hintOf hs) 6) H36 Try.f36 (Try.f36.body.getD .skip) s36 = t36 := by kernel_rfl
def F36 : Vx.Fn := Vx.Fd t36 (Tab.fn a36)
theorem g36 : Vx.Good Try.prog True_ 36 s36 F36 := good_of_tree hm hI Tab.Good.nil H36 hs 6 Try.func36 rfl (by kernel_rfl) x36
/-! trammel/leb.PutU -/
def s38 : Sig := ⟨[(.v (.lf [(.i .u8)])), (.v (.i .u64))], [(.v (.lo 5 [(.i .u8)]))]⟩
def H38 : Hint := ⟨[], [(3, some ⟨[(1, false, [.i .u64]), (5, false, [.lo 5 [(.i .u8)]])], [], [], [8, 9, 10, 11, 12, 13, 14, 15, 16, 17], [], [1]⟩)], [], 12, false⟩
def l38_1 : Vx.T := (.ite (.cm .geq (.iv 1) (.n 128)) (.lst [(.els [[(.i (.ar .or .u8 (.cv .u8 (.iv 1)) (.n 128)))]])] (.rq (.an (.cm .leq (.ln 2) (.n 17592186044416)) (.cm .leq (.ln 3) (.n 17592186044416))) (.lst [(.ap (.v 2) (.v 3))] (.nxt [(.ar .shr .u64 (.iv 1) (.n 7))] [] [(.v 4)])))) (.brk 2 [(.iv 1)] [] [(.v 2)]))
def k38_2 : Vx.T := (.rq (.cm .eql (.iv 1) (.n 2)) (.lst [(.els [[(.i (.cv .u8 (.iv 2)))]])] (.rq (.an (.cm .leq (.ln 2) (.n 17592186044416)) (.cm .leq (.ln 3) (.n 17592186044416))) (.lst [(.ap (.v 2) (.v 3))] (.ret [] [] [(.v 4)])))))
def t38 : Vx.T := (.call 36 [] [] [(.v 0)] 0 0 1 (.lp [(.iv 0)] [] [(.v 1)] 1 0 1 l38_1 k38_2))
def a38 : Tab := [⟨36, s36, F36⟩]
theorem x38 : sxFn Try.prog (Tab.sig a38) (inlN Try.prog (Tab.sig a38) (hintOf hs) 6) H38 Try.f38 (Try.f38.body.getD .skip) s38 = t38 := by kernel_rfl
theorem e38_36 : Tab.fn a38 36 = F36 := rfl
def F38 : Vx.Fn := Vx.Fd t38 (Tab.fn a38)
theorem g38 : Vx.Good Try.prog True_ 38 s38 F38 := good_of_tree hm hI (gcons g36 Tab.Good.nil) H38 hs 6 Try.func38 rfl (by kernel_rfl) x38
/-! trammel/typ.putVals -/
def s35 : Sig := ⟨[(.v (.lf [(.i .u8)])), (.v (.lf [(.i .i64)]))], [(.v (.lo 5 [(.i .u8)])), (.v .b)]⟩
def H35 : Hint := ⟨[], [(4, some ⟨[(4, false, [.lo 5 [(.i .u8)]]), (5, false, [.b]), (6, false, [.lo 5 [(.i .u8)]]), (16, false, [.i .i64])], [], [], [8, 17, 18, 19, 20, 21, 22, 23, 24, 25, 26, 27, 28, 29, 30, 31], [], [2]⟩)], [], 12, false⟩
def l35_1 : Vx.T := (.ite (.cm .lss (.iv 0) (.ln 1)) (.rq (.cm .geq (.iv 0) (.n 0)) (.lb (.an (.cm .neq (.ix 1 (.iv 0) 0) (.n 127)) (.cm .neq (.ix 1 (.iv 0) 0) (.n 126))) (.ite (.bv 1) (.rt (.ret [] [(.t false)] [.nil])) (.lst [(.els [[(.i (.cv .u8 (.ix 1 (.iv 0) 0)))]])] (.rq (.an (.cm .leq (.ln 4) (.n 17592186044416)) (.cm .leq (.ln 5) (.n 17592186044416))) (.lst [(.ap (.v 4) (.v 5))] (.nxt [(.ar .add .i64 (.iv 0) (.n 1))] [(.bv 0)] [(.v 3), (.v 6)]))))))) (.brk 2 [(.iv 0)] [(.bv 0)] [(.v 3), (.v 4)]))
def k35_2 : Vx.T := (.rq (.cm .eql (.iv 0) (.n 2)) (.ret [] [(.cm .leq (.ln 1) (.n 8))] [(.v 4)]))
def t35 : Vx.T := (.call 38 [(.cv .u64 (.ln 1))] [] [(.v 0)] 0 0 1 (.lp [(.n 0)] [(.t false)] [.nil, (.v 2)] 1 1 2 l35_1 k35_2))
def a35 : Tab := [⟨38, s38, F38⟩]
theorem x35 : sxFn Try.prog (Tab.sig a35) (inlN Try.prog (Tab.sig a35) (hintOf hs) 6) H35 Try.f35 (Try.f35.body.getD .skip) s35 = t35 := by kernel_rfl
theorem e35_38 : Tab.fn a35 38 = F38 := rfl
def F35 : Vx.Fn := Vx.Fd t35 (Tab.fn a35)
theorem g35 : Vx.Good Try.prog True_ 35 s35 F35 := good_of_tree hm hI (gcons g38 Tab.Good.nil) H35 hs 6 Try.func35 rfl (by kernel_rfl) x35
/-! trammel/typ.PutFunc -/
def s18 : Sig := ⟨[(.v (.lf [(.i .u8)])), (.agg [(.lf [(.i .i64)]), (.lf [(.i .i64)])])], [(.v (.lo 5 [(.i .u8)])), (.v (.i .i64))]⟩
def H18 : Hint := ⟨[], [], [], 12, false⟩
def t18 : Vx.T := (.both (.call 36 [] [] [(.v 0)] 0 0 1 (.lst [(.els [[(.i (.n 96))]])] (.rq (.an (.cm .leq (.ln 3) (.n 17592186044416)) (.cm .leq (.ln 4) (.n 17592186044416))) (.lst [(.ap (.v 3) (.v 4))] (.call 35 [] [] [(.v 5), (.v 1)] 0 1 1 (.ite (.nt (.bv 0)) (.ret [(.n 2)] [] [.nil]) (.call 35 [] [] [(.v 6), (.v 2)] 0 1 1 (.ite (.nt (.bv 1)) (.ret [(.n 2)] [] [.nil]) (.ret [(.n 0)] [] [(.v 7)]))))))))) (.lst [(.els [[(.i (.n 96))]])] (.call 36 [] [] [(.v 0)] 0 0 1 (.rq (.an (.cm .leq (.ln 4) (.n 17592186044416)) (.cm .leq (.ln 3) (.n 17592186044416))) (.lst [(.ap (.v 4) (.v 3))] (.call 35 [] [] [(.v 5), (.v 1)] 0 1 1 (.ite (.nt (.bv 0)) (.ret [(.n 2)] [] [.nil]) (.call 35 [] [] [(.v 6), (.v 2)] 0 1 1 (.ite (.nt (.bv 1)) (.ret [(.n 2)] [] [.nil]) (.ret [(.n 0)] [] [(.v 7)]))))))))))
def a18 : Tab := [⟨36, s36, F36⟩, ⟨35, s35, F35⟩]
theorem x18 : sxFn Try.prog (Tab.sig a18) (inlN Try.prog (Tab.sig a18) (hintOf hs) 6) H18 Try.f18 (Try.f18.body.getD .skip) s18 = t18 := by kernel_rfl
theorem e18_36 : Tab.fn a18 36 = F36 := rfl
theorem e18_35 : Tab.fn a18 35 = F35 := rfl
def F18 : Vx.Fn := Vx.Fd t18 (Tab.fn a18)
theorem g18 : Vx.Good Try.prog True_ 18 s18 F18 := good_of_tree hm hI (gcons g36 (gcons g35 Tab.Good.nil)) H18 hs 6 Try.func18 rfl (by kernel_rfl) x18
/-! trammel/trammelref05.Right -/
def s19 : Sig := ⟨[(.agg [(.lf [(.i .i64)]), (.lf [(.i .i64)])])], [(.v .b)]⟩
def H19 : Hint := ⟨[], [(3, some ⟨[(2, false, [.b]), (12, false, [.i .i64])], [], [], [4, 5, 13, 14, 15, 16, 17, 18, 19, 20, 21, 22, 23, 24, 25, 26, 27, 28, 29, 30, 31, 32, 33, 34, 35, 36, 37], [], []⟩), (8, some ⟨[(2, false, [.b]), (5, false, [.i .i64])], [], [], [19, 20, 21, 22, 23, 24, 25, 26, 27, 28, 29, 30, 31, 32, 33, 34, 35, 36], [], []⟩)], [], 12, false⟩
def l19_1 : Vx.T := (.ite (.cm .lss (.iv 1) (.ln 3)) (.rq (.cm .geq (.iv 1) (.n 0)) (.rq (.oo (.nt (.cm .neq (.ix 3 (.iv 1) 0) (.n 127))) (.an (.cm .geq (.iv 1) (.n 0)) (.cm .lss (.iv 1) (.ln 3)))) (.ite (.cm .neq (.ix 3 (.iv 1) 0) (.n 127)) (.ite (.cm .neq (.ix 3 (.iv 1) 0) (.n 126)) (.rt (.rt (.ret [] [(.t false)] []))) (.nxt [(.ar .add .i64 (.iv 1) (.n 1))] [(.bv 1)] [])) (.nxt [(.ar .add .i64 (.iv 1) (.n 1))] [(.bv 1)] [])))) (.brk 4 [(.iv 1)] [(.bv 1)] []))
def k19_2 : Vx.T := (.rq (.cm .eql (.iv 1) (.n 4)) (.nxt [(.ar .add .i64 (.iv 0) (.n 1))] [(.bv 1)] []))
def l19_3 : Vx.T := (.ite (.cm .lss (.iv 0) (.ln 2)) (.rq (.cm .geq (.iv 0) (.n 0)) (.lst [(.cl 2 (.iv 0) 0)] (.ite (.cm .gtr (.ln 3) (.n 8)) (.rt (.ret [] [(.t false)] [])) (.lp [(.n 0)] [(.bv 0)] [] 1 1 0 l19_1 k19_2)))) (.brk 2 [(.iv 0)] [(.bv 0)] []))
def k19_4 : Vx.T := (.rq (.cm .eql (.iv 0) (.n 2)) (.ret [] [(.t true)] []))
def t19 : Vx.T := (.lst [(.els [[(.l 0)], [(.l 1)]])] (.lp [(.n 0)] [(.t false)] [] 1 1 0 l19_3 k19_4))
def a19 : Tab := []
theorem x19 : sxFn Try.prog (Tab.sig a19) (inlN Try.prog (Tab.sig a19) (hintOf hs) 6) H19 Try.f19 (Try.f19.body.getD .skip) s19 = t19 := by kernel_rfl
def F19 : Vx.Fn := Vx.Fd t19 (Tab.fn a19)
theorem g19 : Vx.Good Try.prog True_ 19 s19 F19 := good_of_tree hm hI Tab.Good.nil H19 hs 6 Try.func19 rfl (by kernel_rfl) x19
/-! trammel/trammelref01.Copy -/
def s9 : Sig := ⟨[(.v (.lf [(.i .u8)]))], [(.v (.lo 5 [(.i .u8)]))]⟩
def H9 : Hint := ⟨[], [], [], 12, false⟩
def t9 : Vx.T := (.lst [(.els [])] (.rq (.an (.cm .leq (.ln 1) (.n 17592186044416)) (.cm .leq (.ln 0) (.n 17592186044416))) (.lst [(.ap (.v 1) (.v 0))] (.ret [] [] [(.v 2)]))))
def a9 : Tab := []
theorem x9 : sxFn Try.prog (Tab.sig a9) (inlN Try.prog (Tab.sig a9) (hintOf hs) 6) H9 Try.f9 (Try.f9.body.getD .skip) s9 = t9 := by kernel_rfl
def F9 : Vx.Fn := Vx.Fd t9 (Tab.fn a9)
theorem g9 : Vx.Good Try.prog True_ 9 s9 F9 := good_of_tree hm hI Tab.Good.nil H9 hs 6 Try.func9 rfl (by kernel_rfl) x9
/-! trammel/trammelref05.FuncBytes -/
def s21 : Sig := ⟨[(.agg [(.lf [(.i .i64)]), (.lf [(.i .i64)])])], [(.v (.lo 5 [(.i .u8)]))]⟩
def H21 : Hint := ⟨[], [(4, some ⟨[(3, false, [.lo 5 [(.i .u8)]]), (14, false, [.i .i64])], [], [], [5, 6, 15, 16, 17, 18, 19, 20, 21, 22, 23, 24, 25, 26, 27, 28, 29, 30, 31, 32, 33, 34, 35, 36, 37, 38], [], [2]⟩), (8, some ⟨[(3, false, [.lo 5 [(.i .u8)]]), (6, false, [.i .i64])], [], [], [24, 25, 26, 27, 28, 29, 30, 31, 32, 33, 34, 35, 36, 37], [], [7]⟩)], [], 12, false⟩
def l21_1 : Vx.T := (.ite (.cm .lss (.iv 1) (.ln 5)) (.rq (.cm .geq (.iv 1) (.n 0)) (.lst [(.els [[(.i (.cv .u8 (.ix 5 (.iv 1) 0)))]])] (.rq (.an (.cm .leq (.ln 8) (.n 17592186044416)) (.cm .leq (.ln 9) (.n 17592186044416))) (.lst [(.ap (.v 8) (.v 9))] (.nxt [(.ar .add .i64 (.iv 1) (.n 1))] [] [(.v 10)]))))) (.brk 4 [(.iv 1)] [] [(.v 8)]))
def k21_2 : Vx.T := (.rq (.cm .eql (.iv 1) (.n 4)) (.nxt [(.ar .add .i64 (.iv 0) (.n 1))] [] [(.v 8)]))
def l21_3 : Vx.T := (.ite (.cm .lss (.iv 0) (.ln 3)) (.rq (.cm .geq (.iv 0) (.n 0)) (.lst [(.cl 3 (.iv 0) 0)] (.lst [(.els [[(.i (.cv .u8 (.ln 5)))]])] (.rq (.an (.cm .leq (.ln 4) (.n 17592186044416)) (.cm .leq (.ln 6) (.n 17592186044416))) (.lst [(.ap (.v 4) (.v 6))] (.lp [(.n 0)] [] [(.v 7)] 1 0 1 l21_1 k21_2)))))) (.brk 2 [(.iv 0)] [] [(.v 4)]))
def k21_4 : Vx.T := (.rq (.cm .eql (.iv 0) (.n 2)) (.ret [] [] [(.v 4)]))
def t21 : Vx.T := (.lst [(.els [[(.i (.n 96))]])] (.lst [(.els [[(.l 0)], [(.l 1)]])] (.lp [(.n 0)] [] [(.v 2)] 1 0 1 l21_3 k21_4)))
def a21 : Tab := []
theorem x21 : sxFn Try.prog (Tab.sig a21) (inlN Try.prog (Tab.sig a21) (hintOf hs) 6) H21 Try.f21 (Try.f21.body.getD .skip) s21 = t21 := by kernel_rfl
def F21 : Vx.Fn := Vx.Fd t21 (Tab.fn a21)
theorem g21 : Vx.Good Try.prog True_ 21 s21 F21 := good_of_tree hm hI Tab.Good.nil H21 hs 6 Try.func21 rfl (by kernel_rfl) x21
/-! trammel/trammelref01.Same -/
def s20 : Sig := ⟨[(.v (.lf [(.i .u8)])), (.v (.lf [(.i .u8)]))], [(.v .b)]⟩
def H20 : Hint := ⟨[], [(5, some ⟨[(4, false, [.b]), (5, false, [.i .i64])], [], [], [11, 12, 13, 14, 15, 16, 17, 18, 19, 20, 21, 22, 23, 24, 25], [], []⟩)], [], 12, false⟩
def l20_1 : Vx.T := (.ite (.cm .lss (.iv 0) (.ln 0)) (.rq (.cm .geq (.iv 0) (.n 0)) (.rq (.cm .lss (.iv 0) (.ln 1)) (.ite (.cm .neq (.ix 0 (.iv 0) 0) (.ix 1 (.iv 0) 0)) (.rt (.ret [] [(.t false)] [])) (.nxt [(.ar .add .i64 (.iv 0) (.n 1))] [(.bv 0)] [])))) (.brk 2 [(.iv 0)] [(.bv 0)] []))
def k20_2 : Vx.T := (.rq (.cm .eql (.iv 0) (.n 2)) (.ret [] [(.t true)] []))
def t20 : Vx.T := (.ite (.cm .neq (.ln 0) (.ln 1)) (.ret [] [(.t false)] []) (.lp [(.n 0)] [(.t false)] [] 1 1 0 l20_1 k20_2))
def a20 : Tab := []
theorem x20 : sxFn Try.prog (Tab.sig a20) (inlN Try.prog (Tab.sig a20) (hintOf hs) 6) H20 Try.f20 (Try.f20.body.getD .skip) s20 = t20 := by kernel_rfl
def F20 : Vx.Fn := Vx.Fd t20 (Tab.fn a20)
theorem g20 : Vx.Good Try.prog True_ 20 s20 F20 := good_of_tree hm hI Tab.Good.nil H20 hs 6 Try.func20 rfl (by kernel_rfl) x20
/-! trammel/typ.right -/
def s37 : Sig := ⟨[(.v (.i .i64))], [(.v .b)]⟩
def H37 : Hint := ⟨[], [], [], 12, false⟩
def t37 : Vx.T := (.lb (.an (.cm .geq (.iv 0) (.n 0)) (.cm .lss (.iv 0) (.n 4294967296))) (.ret [] [(.bv 0)] []))
def a37 : Tab := []
theorem x37 : sxFn Try.prog (Tab.sig a37) (inlN Try.prog (Tab.sig a37) (hintOf hs) 6) H37 Try.f37 (Try.f37.body.getD .skip) s37 = t37 := by kernel_rfl
def F37 : Vx.Fn := Vx.Fd t37 (Tab.fn a37)
theorem g37 : Vx.Good Try.prog True_ 37 s37 F37 := good_of_tree hm hI Tab.Good.nil H37 hs 6 Try.func37 rfl (by kernel_rfl) x37
/-! trammel/typ.PutLimits -/
def s22 : Sig := ⟨[(.v (.lf [(.i .u8)])), (.agg [(.i .i64), .b, (.i .i64)])], [(.v (.lo 5 [(.i .u8)])), (.v (.i .i64))]⟩
def H22 : Hint := ⟨[], [], [], 12, false⟩
def t22 : Vx.T := (.call 37 [(.iv 0)] [] [] 0 1 0 (.ite (.bv 1) (.call 37 [(.iv 1)] [] [] 0 1 0 (.lb (.oo (.nt (.bv 2)) (.an (.nt (.bv 0)) (.cm .neq (.iv 1) (.n 0)))) (.ite (.bv 3) (.ret [(.n 2)] [] [.nil]) (.ite (.nt (.bv 0)) (.both (.call 36 [] [] [(.v 0)] 0 0 1 (.lst [(.els [[(.i (.n 0))]])] (.rq (.an (.cm .leq (.ln 1) (.n 17592186044416)) (.cm .leq (.ln 2) (.n 17592186044416))) (.lst [(.ap (.v 1) (.v 2))] (.call 38 [(.cv .u64 (.iv 0))] [] [(.v 3)] 0 0 1 (.ret [(.n 0)] [] [(.v 4)])))))) (.lst [(.els [[(.i (.n 0))]])] (.call 36 [] [] [(.v 0)] 0 0 1 (.rq (.an (.cm .leq (.ln 2) (.n 17592186044416)) (.cm .leq (.ln 1) (.n 17592186044416))) (.lst [(.ap (.v 2) (.v 1))] (.call 38 [(.cv .u64 (.iv 0))] [] [(.v 3)] 0 0 1 (.ret [(.n 0)] [] [(.v 4)]))))))) (.both (.call 36 [] [] [(.v 0)] 0 0 1 (.lst [(.els [[(.i (.n 1))]])] (.rq (.an (.cm .leq (.ln 1) (.n 17592186044416)) (.cm .leq (.ln 2) (.n 17592186044416))) (.lst [(.ap (.v 1) (.v 2))] (.call 38 [(.cv .u64 (.iv 0))] [] [(.v 3)] 0 0 1 (.call 38 [(.cv .u64 (.iv 1))] [] [(.v 4)] 0 0 1 (.ret [(.n 0)] [] [(.v 5)]))))))) (.lst [(.els [[(.i (.n 1))]])] (.call 36 [] [] [(.v 0)] 0 0 1 (.rq (.an (.cm .leq (.ln 2) (.n 17592186044416)) (.cm .leq (.ln 1) (.n 17592186044416))) (.lst [(.ap (.v 2) (.v 1))] (.call 38 [(.cv .u64 (.iv 0))] [] [(.v 3)] 0 0 1 (.call 38 [(.cv .u64 (.iv 1))] [] [(.v 4)] 0 0 1 (.ret [(.n 0)] [] [(.v 5)])))))))))))) (.ret [(.n 2)] [] [.nil])))
def a22 : Tab := [⟨37, s37, F37⟩, ⟨36, s36, F36⟩, ⟨38, s38, F38⟩]
theorem x22 : sxFn Try.prog (Tab.sig a22) (inlN Try.prog (Tab.sig a22) (hintOf hs) 6) H22 Try.f22 (Try.f22.body.getD .skip) s22 = t22 := by kernel_rfl
theorem e22_37 : Tab.fn a22 37 = F37 := rfl
theorem e22_36 : Tab.fn a22 36 = F36 := rfl
theorem e22_38 : Tab.fn a22 38 = F38 := rfl
def F22 : Vx.Fn := Vx.Fd t22 (Tab.fn a22)
theorem g22 : Vx.Good Try.prog True_ 22 s22 F22 := good_of_tree hm hI (gcons g37 (gcons g36 (gcons g38 Tab.Good.nil))) H22 hs 6 Try.func22 rfl (by kernel_rfl) x22
/-! trammel/trammelref05.RightLimits -/
def s23 : Sig := ⟨[(.agg [(.i .i64), .b, (.i .i64)])], [(.v .b)]⟩
def H23 : Hint := ⟨[], [], [], 12, false⟩
def t23 : Vx.T := (.lb (.an (.cm .geq (.iv 0) (.n 0)) (.cm .leq (.iv 0) (.n 4294967295))) (.lb (.an (.an (.bv 1) (.cm .geq (.iv 1) (.n 0))) (.cm .leq (.iv 1) (.n 4294967295))) (.lb (.an (.bv 2) (.oo (.bv 0) (.cm .eql (.iv 1) (.n 0)))) (.ret [] [(.bv 3)] []))))
def a23 : Tab := []
theorem x23 : sxFn Try.prog (Tab.sig a23) (inlN Try.prog (Tab.sig a23) (hintOf hs) 6) H23 Try.f23 (Try.f23.body.getD .skip) s23 = t23 := by kernel_rfl
def F23 : Vx.Fn := Vx.Fd t23 (Tab.fn a23)
theorem g23 : Vx.Good Try.prog True_ 23 s23 F23 := good_of_tree hm hI Tab.Good.nil H23 hs 6 Try.func23 rfl (by kernel_rfl) x23
/-! trammel/trammelref01.PutU -/
def s39 : Sig := ⟨[(.v (.i .u64))], [(.v (.lo 5 [(.i .u8)]))]⟩
def H39 : Hint := ⟨[], [(3, some ⟨[(0, false, [.i .u64]), (2, false, [.lo 5 [(.i .u8)]]), (3, false, [.lo 5 [(.i .u8)]])], [], [], [4, 5, 6, 7, 8, 9, 10, 11, 12, 13, 14, 15, 16, 17, 18, 19, 20], [], []⟩)], [], 12, false⟩
def l39_1 : Vx.T := (.ite (.cm .eql (.ar .quo .u64 (.iv 1) (.n 128)) (.n 0)) (.lst [(.els [[(.i (.cv .u8 (.ar .rem .u64 (.iv 1) (.n 128))))]])] (.rq (.an (.cm .leq (.ln 1) (.n 17592186044416)) (.cm .leq (.ln 2) (.n 17592186044416))) (.lst [(.ap (.v 1) (.v 2))] (.rt (.ret [] [] [(.v 3)]))))) (.lst [(.els [[(.i (.ar .add .u8 (.cv .u8 (.ar .rem .u64 (.iv 1) (.n 128))) (.n 128)))]])] (.rq (.an (.cm .leq (.ln 1) (.n 17592186044416)) (.cm .leq (.ln 2) (.n 17592186044416))) (.lst [(.ap (.v 1) (.v 2))] (.nxt [(.ar .quo .u64 (.iv 1) (.n 128))] [] [(.v 0), (.v 3)])))))
def k39_2 : Vx.T := (.fail 8)
def t39 : Vx.T := (.lp [(.iv 0)] [] [.nil, .nil] 1 0 2 l39_1 k39_2)
def a39 : Tab := []
theorem x39 : sxFn Try.prog (Tab.sig a39) (inlN Try.prog (Tab.sig a39) (hintOf hs) 6) H39 Try.f39 (Try.f39.body.getD .skip) s39 = t39 := by kernel_rfl
def F39 : Vx.Fn := Vx.Fd t39 (Tab.fn a39)
theorem g39 : Vx.Good Try.prog True_ 39 s39 F39 := good_of_tree hm hI Tab.Good.nil H39 hs 6 Try.func39 rfl (by kernel_rfl) x39
/-! trammel/trammelref05.LimitsBytes -/
def s24 : Sig := ⟨[(.agg [(.i .i64), .b, (.i .i64)])], [(.v (.lo 5 [(.i .u8)]))]⟩
def H24 : Hint := ⟨[], [], [], 12, false⟩
def t24 : Vx.T := (.ite (.bv 0) (.both (.lst [(.els [[(.i (.n 1))]])] (.call 39 [(.cv .u64 (.iv 0))] [] [] 0 0 1 (.rq (.an (.cm .leq (.ln 0) (.n 17592186044416)) (.cm .leq (.ln 1) (.n 17592186044416))) (.lst [(.ap (.v 0) (.v 1))] (.call 39 [(.cv .u64 (.iv 1))] [] [] 0 0 1 (.rq (.an (.cm .leq (.ln 2) (.n 17592186044416)) (.cm .leq (.ln 3) (.n 17592186044416))) (.lst [(.ap (.v 2) (.v 3))] (.ret [] [] [(.v 4)])))))))) (.call 39 [(.cv .u64 (.iv 0))] [] [] 0 0 1 (.lst [(.els [[(.i (.n 1))]])] (.rq (.an (.cm .leq (.ln 1) (.n 17592186044416)) (.cm .leq (.ln 0) (.n 17592186044416))) (.lst [(.ap (.v 1) (.v 0))] (.call 39 [(.cv .u64 (.iv 1))] [] [] 0 0 1 (.rq (.an (.cm .leq (.ln 2) (.n 17592186044416)) (.cm .leq (.ln 3) (.n 17592186044416))) (.lst [(.ap (.v 2) (.v 3))] (.ret [] [] [(.v 4)]))))))))) (.lst [(.els [[(.i (.n 0))]])] (.call 39 [(.cv .u64 (.iv 0))] [] [] 0 0 1 (.rq (.an (.cm .leq (.ln 0) (.n 17592186044416)) (.cm .leq (.ln 1) (.n 17592186044416))) (.lst [(.ap (.v 0) (.v 1))] (.ret [] [] [(.v 2)]))))))
def a24 : Tab := [⟨39, s39, F39⟩]
theorem x24 : sxFn Try.prog (Tab.sig a24) (inlN Try.prog (Tab.sig a24) (hintOf hs) 6) H24 Try.f24 (Try.f24.body.getD .skip) s24 = t24 := by kernel_rfl
theorem e24_39 : Tab.fn a24 39 = F39 := rfl
def F24 : Vx.Fn := Vx.Fd t24 (Tab.fn a24)
theorem g24 : Vx.Good Try.prog True_ 24 s24 F24 := good_of_tree hm hI (gcons g39 Tab.Good.nil) H24 hs 6 Try.func24 rfl (by kernel_rfl) x24
/-! trammel/leb.PutS -/
def s40 : Sig := ⟨[(.v (.lf [(.i .u8)])), (.v (.i .i64))], [(.v (.lo 5 [(.i .u8)]))]⟩
def H40 : Hint := ⟨[], [(3, some ⟨[(1, false, [.i .i64]), (5, false, [.lo 5 [(.i .u8)]])], [], [], [8, 9, 10, 11, 12, 13, 14, 15, 16, 17, 18, 19, 20, 21], [], [1]⟩)], [], 12, false⟩
def l40_1 : Vx.T := (.lb (.oo (.cm .lss (.iv 1) (.n (-64))) (.cm .gtr (.iv 1) (.n 63))) (.ite (.bv 0) (.lst [(.els [[(.i (.ar .or .u8 (.cv .u8 (.iv 1)) (.n 128)))]])] (.rq (.an (.cm .leq (.ln 2) (.n 17592186044416)) (.cm .leq (.ln 3) (.n 17592186044416))) (.lst [(.ap (.v 2) (.v 3))] (.nxt [(.ar .shr .i64 (.iv 1) (.n 7))] [] [(.v 4)])))) (.brk 2 [(.iv 1)] [] [(.v 2)])))
def k40_2 : Vx.T := (.rq (.cm .eql (.iv 1) (.n 2)) (.lst [(.els [[(.i (.ar .and .u8 (.cv .u8 (.iv 2)) (.n 127)))]])] (.rq (.an (.cm .leq (.ln 2) (.n 17592186044416)) (.cm .leq (.ln 3) (.n 17592186044416))) (.lst [(.ap (.v 2) (.v 3))] (.ret [] [] [(.v 4)])))))
def t40 : Vx.T := (.call 36 [] [] [(.v 0)] 0 0 1 (.lp [(.iv 0)] [] [(.v 1)] 1 0 1 l40_1 k40_2))
def a40 : Tab := [⟨36, s36, F36⟩]
theorem x40 : sxFn Try.prog (Tab.sig a40) (inlN Try.prog (Tab.sig a40) (hintOf hs) 6) H40 Try.f40 (Try.f40.body.getD .skip) s40 = t40 := by kernel_rfl
theorem e40_36 : Tab.fn a40 36 = F36 := rfl
def F40 : Vx.Fn := Vx.Fd t40 (Tab.fn a40)
theorem g40 : Vx.Good Try.prog True_ 40 s40 F40 := good_of_tree hm hI (gcons g36 Tab.Good.nil) H40 hs 6 Try.func40 rfl (by kernel_rfl) x40
/-! trammel/typ.PutBlock -/
def s25 : Sig := ⟨[(.v (.lf [(.i .u8)])), (.v (.i .i64))], [(.v (.lo 5 [(.i .u8)])), (.v (.i .i64))]⟩
def H25 : Hint := ⟨[], [], [], 12, false⟩
def t25 : Vx.T := (.lb (.an (.cm .neq (.iv 0) (.n (-64))) (.cm .neq (.iv 0) (.n (-1)))) (.ite (.an (.bv 0) (.cm .neq (.iv 0) (.n (-2)))) (.call 37 [(.iv 0)] [] [] 0 1 0 (.ite (.nt (.bv 1)) (.ret [(.n 2)] [] [.nil]) (.call 40 [(.iv 0)] [] [(.v 0)] 0 0 1 (.ret [(.n 0)] [] [(.v 1)])))) (.call 40 [(.iv 0)] [] [(.v 0)] 0 0 1 (.ret [(.n 0)] [] [(.v 1)]))))
def a25 : Tab := [⟨37, s37, F37⟩, ⟨40, s40, F40⟩]
theorem x25 : sxFn Try.prog (Tab.sig a25) (inlN Try.prog (Tab.sig a25) (hintOf hs) 6) H25 Try.f25 (Try.f25.body.getD .skip) s25 = t25 := by kernel_rfl
theorem e25_37 : Tab.fn a25 37 = F37 := rfl
theorem e25_40 : Tab.fn a25 40 = F40 := rfl
def F25 : Vx.Fn := Vx.Fd t25 (Tab.fn a25)
theorem g25 : Vx.Good Try.prog True_ 25 s25 F25 := good_of_tree hm hI (gcons g37 (gcons g40 Tab.Good.nil)) H25 hs 6 Try.func25 rfl (by kernel_rfl) x25
/-! trammel/trammelref05.RightBlock -/
def s26 : Sig := ⟨[(.v (.i .i64))], [(.v .b)]⟩
def H26 : Hint := ⟨[], [], [], 12, false⟩
def t26 : Vx.T := (.lb (.oo (.cm .eql (.iv 0) (.n (-64))) (.cm .eql (.iv 0) (.n (-1)))) (.lb (.an (.cm .geq (.iv 0) (.n 0)) (.cm .leq (.iv 0) (.n 4294967295))) (.lb (.oo (.oo (.bv 0) (.cm .eql (.iv 0) (.n (-2)))) (.bv 1)) (.ret [] [(.bv 2)] []))))
def a26 : Tab := []
theorem x26 : sxFn Try.prog (Tab.sig a26) (inlN Try.prog (Tab.sig a26) (hintOf hs) 6) H26 Try.f26 (Try.f26.body.getD .skip) s26 = t26 := by kernel_rfl
def F26 : Vx.Fn := Vx.Fd t26 (Tab.fn a26)
theorem g26 : Vx.Good Try.prog True_ 26 s26 F26 := good_of_tree hm hI Tab.Good.nil H26 hs 6 Try.func26 rfl (by kernel_rfl) x26
/-! trammel/trammelref01.most -/
def s45 : Sig := ⟨[(.v (.i .i64))], [(.v (.i .i64))]⟩
def H45 : Hint := ⟨[], [(3, some ⟨[(3, false, [.i .i64])], [], [], [4, 5, 6, 7, 8, 9], [], []⟩)], [], 12, false⟩
def l45_1 : Vx.T := (.ite (.cm .lss (.ar .mul .i64 (.n 7) (.iv 1)) (.iv 0)) (.nxt [(.ar .add .i64 (.iv 1) (.n 1))] [] []) (.brk 2 [(.iv 1)] [] []))
def k45_2 : Vx.T := (.rq (.cm .eql (.iv 1) (.n 2)) (.ret [(.iv 2)] [] []))
def t45 : Vx.T := (.lp [(.n 0)] [] [] 1 0 0 l45_1 k45_2)
def a45 : Tab := []
theorem x45 : sxFn Try.prog (Tab.sig a45) (inlN Try.prog (Tab.sig a45) (hintOf hs) 6) H45 Try.f45 (Try.f45.body.getD .skip) s45 = t45 := by kernel_rfl
def F45 : Vx.Fn := Vx.Fd t45 (Tab.fn a45)
theorem g45 : Vx.Good Try.prog True_ 45 s45 F45 := good_of_tree hm hI Tab.Good.nil H45 hs 6 Try.func45 rfl (by kernel_rfl) x45
/-! trammel/trammelref01.Read -/
def s43 : Sig := ⟨[(.v (.lf [(.i .u8)])), (.v (.i .i64))], [(.v (.lo 4 [.b])), (.v (.i .i64)), (.v (.i .i64))]⟩
def H43 : Hint := ⟨[], [(6, some ⟨[(4, false, [.lo 4 [.b]]), (5, false, [.i .i64]), (6, false, [.i .i64]), (7, false, [.lo 4 [.b]]), (8, false, [.i .i64])], [], [], [9, 16, 17, 18, 19, 20, 21, 22, 23, 24, 25, 26, 27, 28, 29, 30, 31, 32, 33, 34, 35, 36, 37, 38, 39, 40, 41, 42, 43, 44, 45, 46, 47, 48, 49], [], []⟩), (11, some ⟨[(7, false, [.lo 4 [.b]]), (9, false, [.i .i64])], [], [], [26, 27, 28, 29, 30, 31, 32, 33, 34, 35, 36, 37, 38, 39, 40, 41], [], [2]⟩)], [], 12, false⟩
def l43_1 : Vx.T := (.ite (.cm .lss (.iv 5) (.n 7)) (.rq (.an (.cm .geq (.iv 3) (.n 0)) (.cm .lss (.iv 3) (.ln 0))) (.rq (.an (.cm .geq (.iv 3) (.n 0)) (.cm .lss (.iv 3) (.ln 0))) (.rq (.cm .geq (.cv .u64 (.iv 5)) (.n 0)) (.li (.ar .rem .u8 (.ar .shr .u8 (.ix 0 (.iv 3) 0) (.cv .u64 (.iv 5))) (.n 2)) (.lst [(.els [[(.b (.cm .eql (.iv 6) (.n 1)))]])] (.rq (.an (.cm .leq (.ln 3) (.n 17592186044416)) (.cm .leq (.ln 4) (.n 17592186044416))) (.lst [(.ap (.v 3) (.v 4))] (.nxt [(.ar .add .i64 (.iv 5) (.n 1))] [] [(.v 5)])))))))) (.brk 4 [(.iv 5)] [] [(.v 3)]))
def k43_2 : Vx.T := (.rq (.cm .eql (.iv 5) (.n 4)) (.rq (.an (.cm .geq (.iv 3) (.n 0)) (.cm .lss (.iv 3) (.ln 0))) (.rq (.an (.cm .geq (.iv 3) (.n 0)) (.cm .lss (.iv 3) (.ln 0))) (.ite (.cm .lss (.ix 0 (.iv 3) 0) (.n 128)) (.rt (.ret [(.ar .add .i64 (.iv 3) (.n 1)), (.n 0)] [] [(.v 3)])) (.nxt [(.iv 1), (.iv 2), (.ar .add .i64 (.iv 3) (.n 1))] [] [(.v 1), (.v 3)])))))
def l43_3 : Vx.T := (.call 45 [(.iv 0)] [] [] 1 0 0 (.ite (.cm .lss (.iv 3) (.iv 4)) (.ite (.cm .geq (.iv 3) (.ln 0)) (.rt (.ret [(.n 0), (.n 1)] [] [.nil])) (.lp [(.n 0)] [] [(.v 2)] 1 0 1 l43_1 k43_2)) (.brk 2 [(.iv 1), (.iv 2), (.iv 3)] [] [(.v 1), (.v 2)])))
def k43_4 : Vx.T := (.rq (.cm .eql (.iv 1) (.n 2)) (.ret [(.n 0), (.n 2)] [] [.nil]))
def t43 : Vx.T := (.lb (.oo (.cm .lss (.iv 0) (.n 1)) (.cm .gtr (.iv 0) (.n 64))) (.ite (.bv 0) (.ret [(.n 0), (.n 5)] [] [.nil]) (.lp [(.n 0), (.n 0), (.n 0)] [] [.nil, .nil] 3 0 2 l43_3 k43_4)))
def a43 : Tab := [⟨45, s45, F45⟩]
theorem x43 : sxFn Try.prog (Tab.sig a43) (inlN Try.prog (Tab.sig a43) (hintOf hs) 6) H43 Try.f43 (Try.f43.body.getD .skip) s43 = t43 := by kernel_rfl
theorem e43_45 : Tab.fn a43 45 = F45 := rfl
def F43 : Vx.Fn := Vx.Fd t43 (Tab.fn a43)
theorem g43 : Vx.Good Try.prog True_ 43 s43 F43 := good_of_tree hm hI (gcons g45 Tab.Good.nil) H43 hs 6 Try.func43 rfl (by kernel_rfl) x43
/-! trammel/trammelref01.S -/
def s34 : Sig := ⟨[(.v (.lf [(.i .u8)])), (.v (.i .i64))], [(.v (.i .i64)), (.v (.i .i64)), (.v (.i .i64))]⟩
def H34 : Hint := ⟨[], [(6, some ⟨[(4, false, [.i .i64]), (5, false, [.i .i64]), (6, false, [.i .i64]), (10, false, [.i .i64])], [], [], [25, 26, 27, 28, 29, 30, 31, 32, 33, 34, 35, 36, 37, 38, 39, 40], [], []⟩), (12, some ⟨[(11, false, [.i .i64]), (12, false, [.i .i64])], [], [], [13, 41, 42, 43, 44, 45, 46, 47, 48, 49, 50, 51, 52, 53, 54, 55, 56, 57, 58, 59, 60, 61, 62, 63], [], []⟩)], [], 12, false⟩
def l34_1 : Vx.T := (.ite (.cm .geq (.iv 9) (.n 0)) (.rq (.an (.cm .geq (.ar .sub .i64 (.ln 1) (.n 1)) (.n 0)) (.cm .lss (.ar .sub .i64 (.ln 1) (.n 1)) (.ln 1))) (.rq (.an (.cm .geq (.ar .sub .i64 (.ln 1) (.n 1)) (.n 0)) (.cm .lss (.ar .sub .i64 (.ln 1) (.n 1)) (.ln 1))) (.ite (.cm .lss (.iv 9) (.ln 1)) (.ite (.bx 1 (.iv 9) 0) (.nxt [(.ar .add .i64 (.ar .mul .i64 (.iv 8) (.n 2)) (.n 1)), (.ar .sub .i64 (.iv 9) (.n 1))] [] []) (.nxt [(.ar .mul .i64 (.iv 8) (.n 2)), (.ar .sub .i64 (.iv 9) (.n 1))] [] [])) (.ite (.bx 1 (.ar .sub .i64 (.ln 1) (.n 1)) 0) (.nxt [(.ar .add .i64 (.ar .mul .i64 (.iv 8) (.n 2)) (.n 1)), (.ar .sub .i64 (.iv 9) (.n 1))] [] []) (.nxt [(.ar .mul .i64 (.iv 8) (.n 2)), (.ar .sub .i64 (.iv 9) (.n 1))] [] []))))) (.brk 4 [(.iv 8), (.iv 9)] [] []))
def k34_2 : Vx.T := (.rq (.cm .eql (.iv 8) (.n 4)) (.ret [(.iv 9), (.iv 1), (.n 0)] [] []))
def l34_3 : Vx.T := (.ite (.cm .lss (.iv 6) (.ln 1)) (.rq (.cm .geq (.iv 6) (.n 0)) (.rq (.an (.cm .geq (.ar .sub .i64 (.iv 0) (.n 1)) (.n 0)) (.cm .lss (.ar .sub .i64 (.iv 0) (.n 1)) (.ln 1))) (.rq (.an (.cm .geq (.ar .sub .i64 (.iv 0) (.n 1)) (.n 0)) (.cm .lss (.ar .sub .i64 (.iv 0) (.n 1)) (.ln 1))) (.lb (.nt (.be (.bx 1 (.iv 6) 0) (.bx 1 (.ar .sub .i64 (.iv 0) (.n 1)) 0))) (.ite (.bv 0) (.rt (.ret [(.n 0), (.n 0), (.n 2)] [] [])) (.nxt [(.iv 3), (.iv 4), (.iv 5), (.ar .add .i64 (.iv 6) (.n 1))] [] [])))))) (.brk 2 [(.iv 3), (.iv 4), (.iv 5), (.iv 6)] [] []))
def k34_4 : Vx.T := (.rq (.cm .eql (.iv 3) (.n 2)) (.lp [(.n 0), (.n 63)] [] [] 2 0 0 l34_1 k34_2))
def t34 : Vx.T := (.call 43 [(.iv 0)] [] [(.v 0)] 2 0 1 (.ite (.cm .neq (.iv 2) (.n 0)) (.ret [(.n 0), (.n 0), (.iv 2)] [] []) (.lp [(.n 0), (.n 0), (.n 0), (.iv 0)] [] [] 4 0 0 l34_3 k34_4)))
def a34 : Tab := [⟨43, s43, F43⟩]
theorem x34 : sxFn Try.prog (Tab.sig a34) (inlN Try.prog (Tab.sig a34) (hintOf hs) 6) H34 Try.f34 (Try.f34.body.getD .skip) s34 = t34 := by kernel_rfl
theorem e34_43 : Tab.fn a34 43 = F43 := rfl
def F34 : Vx.Fn := Vx.Fd t34 (Tab.fn a34)
theorem g34 : Vx.Good Try.prog True_ 34 s34 F34 := good_of_tree hm hI (gcons g43 Tab.Good.nil) H34 hs 6 Try.func34 rfl (by kernel_rfl) x34
/-! trammel/trammelref01.PutS -/
def s41 : Sig := ⟨[(.v (.i .i64))], [(.v (.lf [(.i .u8)]))]⟩
def H41 : Hint := ⟨[], [(4, some ⟨[(2, false, [.lo 5 [(.i .u8)]]), (3, false, [.i .i64])], [], [], [4, 5, 6, 7, 8, 9, 10, 11, 12, 13, 14, 15, 16, 17, 18, 19, 20, 21, 22, 23, 24, 25, 26, 27, 28, 29, 30, 31, 32, 33, 34, 35, 36, 37, 38, 39, 40, 41, 42, 43, 44, 45, 46, 47, 48], [], []⟩), (6, some ⟨[(4, false, [.lo 5 [(.i .u8)]]), (5, false, [.i .i64])], [], [], [6, 12, 13, 14, 15, 16, 17, 18, 19, 20, 21, 22, 23, 24, 25, 26, 27, 28, 29, 30, 31, 32, 33, 34], [], []⟩)], [], 12, false⟩
def l41_1 : Vx.T := (.ite (.cm .lss (.iv 2) (.iv 1)) (.rq (.cm .geq (.cv .u64 (.ar .mul .i64 (.n 7) (.iv 2))) (.n 0)) (.li (.cv .u64 (.ar .shr .i64 (.iv 0) (.cv .u64 (.ar .mul .i64 (.n 7) (.iv 2))))) (.ite (.cm .lss (.iv 2) (.ar .sub .i64 (.iv 1) (.n 1))) (.lst [(.els [[(.i (.ar .add .u8 (.cv .u8 (.ar .rem .u64 (.iv 3) (.n 128))) (.n 128)))]])] (.rq (.an (.cm .leq (.ln 1) (.n 17592186044416)) (.cm .leq (.ln 2) (.n 17592186044416))) (.lst [(.ap (.v 1) (.v 2))] (.nxt [(.ar .add .i64 (.iv 2) (.n 1))] [] [(.v 3)])))) (.lst [(.els [[(.i (.cv .u8 (.ar .rem .u64 (.iv 3) (.n 128))))]])] (.rq (.an (.cm .leq (.ln 1) (.n 17592186044416)) (.cm .leq (.ln 2) (.n 17592186044416))) (.lst [(.ap (.v 1) (.v 2))] (.nxt [(.ar .add .i64 (.iv 2) (.n 1))] [] [(.v 3)]))))))) (.brk 4 [(.iv 2)] [] [(.v 1)]))
def k41_2 : Vx.T := (.rq (.cm .eql (.iv 2) (.n 4)) (.call 34 [(.n 64)] [] [(.v 1)] 3 0 0 (.lb (.an (.cm .eql (.iv 6) (.n 0)) (.cm .eql (.iv 4) (.iv 0))) (.ite (.bv 0) (.rt (.ret [] [] [(.v 1)])) (.nxt [(.ar .add .i64 (.iv 1) (.n 1))] [] [(.v 0)])))))
def l41_3 : Vx.T := (.lp [(.n 0)] [] [.nil] 1 0 1 l41_1 k41_2)
def k41_4 : Vx.T := (.fail 8)
def t41 : Vx.T := (.lp [(.n 1)] [] [.nil] 1 0 1 l41_3 k41_4)
def a41 : Tab := [⟨34, s34, F34⟩]
theorem x41 : sxFn Try.prog (Tab.sig a41) (inlN Try.prog (Tab.sig a41) (hintOf hs) 6) H41 Try.f41 (Try.f41.body.getD .skip) s41 = t41 := by kernel_rfl
theorem e41_34 : Tab.fn a41 34 = F34 := rfl
def F41 : Vx.Fn := Vx.Fd t41 (Tab.fn a41)
theorem g41 : Vx.Good Try.prog True_ 41 s41 F41 := good_of_tree hm hI (gcons g34 Tab.Good.nil) H41 hs 6 Try.func41 rfl (by kernel_rfl) x41
/-! trammel/trammelref05.BlockBytes -/
def s27 : Sig := ⟨[(.v (.i .i64))], [(.v (.lf [(.i .u8)]))]⟩
def H27 : Hint := ⟨[], [], [], 12, false⟩
def t27 : Vx.T := (.call 41 [(.iv 0)] [] [] 0 0 1 (.ret [] [] [(.v 0)]))
def a27 : Tab := [⟨41, s41, F41⟩]
theorem x27 : sxFn Try.prog (Tab.sig a27) (inlN Try.prog (Tab.sig a27) (hintOf hs) 6) H27 Try.f27 (Try.f27.body.getD .skip) s27 = t27 := by kernel_rfl
theorem e27_41 : Tab.fn a27 41 = F41 := rfl
def F27 : Vx.Fn := Vx.Fd t27 (Tab.fn a27)
theorem g27 : Vx.Good Try.prog True_ 27 s27 F27 := good_of_tree hm hI (gcons g41 Tab.Good.nil) H27 hs 6 Try.func27 rfl (by kernel_rfl) x27
/-! trammel/trammellaw05.TypPuts -/
def s5 : Sig := ⟨[(.v (.lf [(.i .u8)])), (.agg [(.lf [(.i .i64)]), (.lf [(.i .i64)])]), (.agg [(.i .i64), .b, (.i .i64)]), (.v (.i .i64))], [(.v .b)]⟩
def H5 : Hint := ⟨[], [], [], 12, false⟩
def b5_1 : Vx.T := (.call 25 [(.iv 2)] [] [(.v 3)] 1 0 1 (.call 26 [(.iv 2)] [] [] 0 1 0 (.ite (.an (.be (.bv 8) (.cm .eql (.iv 5) (.n 0))) (.bv 8)) (.call 9 [] [] [(.v 3)] 0 0 1 (.call 27 [(.iv 2)] [] [] 0 0 1 (.rq (.an (.cm .leq (.ln 10) (.n 17592186044416)) (.cm .leq (.ln 11) (.n 17592186044416))) (.lst [(.ap (.v 10) (.v 11))] (.call 20 [] [] [(.v 9), (.v 12)] 0 1 0 (.ret [] [(.bv 9)] [])))))) (.lb (.an (.an (.nt (.bv 8)) (.cm .eql (.iv 5) (.n 2))) (.cm .eql (.ln 9) (.n 0))) (.lb (.an (.be (.bv 8) (.cm .eql (.iv 5) (.n 0))) (.bv 9)) (.ret [] [(.bv 10)] []))))))
def b5_2 : Vx.T := (.ite (.an (.be (.bv 5) (.cm .eql (.iv 4) (.n 0))) (.bv 5)) (.call 9 [] [] [(.v 3)] 0 0 1 (.call 24 [(.iv 0), (.iv 1)] [(.bv 0)] [] 0 0 1 (.rq (.an (.cm .leq (.ln 9) (.n 17592186044416)) (.cm .leq (.ln 10) (.n 17592186044416))) (.lst [(.ap (.v 9) (.v 10))] (.call 20 [] [] [(.v 8), (.v 11)] 0 1 0 (.ite (.nt (.bv 6)) (.ret [] [(.t false)] []) (.call 25 [(.iv 2)] [] [(.v 3)] 1 0 1 (.call 26 [(.iv 2)] [] [] 0 1 0 (.ite (.an (.be (.bv 7) (.cm .eql (.iv 5) (.n 0))) (.bv 7)) (.call 9 [] [] [(.v 3)] 0 0 1 (.call 27 [(.iv 2)] [] [] 0 0 1 (.rq (.an (.cm .leq (.ln 13) (.n 17592186044416)) (.cm .leq (.ln 14) (.n 17592186044416))) (.lst [(.ap (.v 13) (.v 14))] (.call 20 [] [] [(.v 12), (.v 15)] 0 1 0 (.ret [] [(.bv 8)] [])))))) (.lb (.an (.an (.nt (.bv 7)) (.cm .eql (.iv 5) (.n 2))) (.cm .eql (.ln 12) (.n 0))) (.lb (.an (.be (.bv 7) (.cm .eql (.iv 5) (.n 0))) (.bv 8)) (.ret [] [(.bv 9)] [])))))))))))) (.lb (.oo (.cm .neq (.iv 4) (.n 2)) (.cm .neq (.ln 8) (.n 0))) (.lb (.oo (.nt (.be (.bv 5) (.cm .eql (.iv 4) (.n 0)))) (.an (.nt (.bv 5)) (.bv 6))) (.ite (.bv 7) (.ret [] [(.t false)] []) b5_1))))
def b5_3 : Vx.T := (.ite (.an (.be (.bv 6) (.cm .eql (.iv 4) (.n 0))) (.bv 6)) (.call 9 [] [] [(.v 3)] 0 0 1 (.call 24 [(.iv 0), (.iv 1)] [(.bv 0)] [] 0 0 1 (.rq (.an (.cm .leq (.ln 6) (.n 17592186044416)) (.cm .leq (.ln 7) (.n 17592186044416))) (.lst [(.ap (.v 6) (.v 7))] (.call 20 [] [] [(.v 5), (.v 8)] 0 1 0 (.ite (.nt (.bv 7)) (.ret [] [(.t false)] []) b5_1)))))) (.lb (.oo (.cm .neq (.iv 4) (.n 2)) (.cm .neq (.ln 5) (.n 0))) (.lb (.oo (.nt (.be (.bv 6) (.cm .eql (.iv 4) (.n 0)))) (.an (.nt (.bv 6)) (.bv 7))) (.ite (.bv 8) (.ret [] [(.t false)] []) (.call 25 [(.iv 2)] [] [(.v 3)] 1 0 1 (.call 26 [(.iv 2)] [] [] 0 1 0 (.ite (.an (.be (.bv 9) (.cm .eql (.iv 5) (.n 0))) (.bv 9)) (.call 9 [] [] [(.v 3)] 0 0 1 (.call 27 [(.iv 2)] [] [] 0 0 1 (.rq (.an (.cm .leq (.ln 7) (.n 17592186044416)) (.cm .leq (.ln 8) (.n 17592186044416))) (.lst [(.ap (.v 7) (.v 8))] (.call 20 [] [] [(.v 6), (.v 9)] 0 1 0 (.ret [] [(.bv 10)] [])))))) (.lb (.an (.an (.nt (.bv 9)) (.cm .eql (.iv 5) (.n 2))) (.cm .eql (.ln 6) (.n 0))) (.lb (.an (.be (.bv 9) (.cm .eql (.iv 5) (.n 0))) (.bv 10)) (.ret [] [(.bv 11)] []))))))))))
def b5_4 : Vx.T := (.ite (.an (.be (.bv 3) (.cm .eql (.iv 3) (.n 0))) (.bv 3)) (.call 9 [] [] [(.v 3)] 0 0 1 (.call 21 [] [] [(.v 1), (.v 2)] 0 0 1 (.rq (.an (.cm .leq (.ln 5) (.n 17592186044416)) (.cm .leq (.ln 6) (.n 17592186044416))) (.lst [(.ap (.v 5) (.v 6))] (.call 20 [] [] [(.v 4), (.v 7)] 0 1 0 (.ite (.nt (.bv 4)) (.ret [] [(.t false)] []) (.call 22 [(.iv 0), (.iv 1)] [(.bv 0)] [(.v 3)] 1 0 1 (.call 23 [(.iv 0), (.iv 1)] [(.bv 0)] [] 0 1 0 (.both b5_2 b5_2))))))))) (.lb (.oo (.cm .neq (.iv 3) (.n 2)) (.cm .neq (.ln 4) (.n 0))) (.lb (.oo (.nt (.be (.bv 3) (.cm .eql (.iv 3) (.n 0)))) (.an (.nt (.bv 3)) (.bv 4))) (.ite (.bv 5) (.ret [] [(.t false)] []) (.call 22 [(.iv 0), (.iv 1)] [(.bv 0)] [(.v 3)] 1 0 1 (.call 23 [(.iv 0), (.iv 1)] [(.bv 0)] [] 0 1 0 (.both b5_3 b5_3)))))))
def t5 : Vx.T := (.call 7 [] [] [] 0 1 0 (.ite (.nt (.bv 1)) (.ret [] [(.t false)] []) (.rq (.an (.cm .leq (.n 0) (.mn (.ln 0) (.n 300))) (.cm .leq (.mn (.ln 0) (.n 300)) (.ln 0))) (.lst [(.cut (.v 0) (.n 0) (.mn (.ln 0) (.n 300)))] (.lb (.oo (.cm .gtr (.ln 1) (.n 60)) (.cm .gtr (.ln 2) (.n 60))) (.ite (.bv 2) (.ret [] [(.t true)] []) (.call 18 [] [] [(.v 3), (.v 1), (.v 2)] 1 0 1 (.call 19 [] [] [(.v 1), (.v 2)] 0 1 0 (.both b5_4 b5_4)))))))))
def a5 : Tab := [⟨7, s7, F7⟩, ⟨18, s18, F18⟩, ⟨19, s19, F19⟩, ⟨9, s9, F9⟩, ⟨21, s21, F21⟩, ⟨20, s20, F20⟩, ⟨22, s22, F22⟩, ⟨23, s23, F23⟩, ⟨24, s24, F24⟩, ⟨25, s25, F25⟩, ⟨26, s26, F26⟩, ⟨27, s27, F27⟩]
theorem x5 : sxFn Try.prog (Tab.sig a5) (inlN Try.prog (Tab.sig a5) (hintOf hs) 6) H5 Try.f5 (Try.f5.body.getD .skip) s5 = t5 := by kernel_rfl
theorem e5_7 : Tab.fn a5 7 = F7 := by kernel_rfl
theorem e5_18 : Tab.fn a5 18 = F18 := by kernel_rfl
theorem e5_19 : Tab.fn a5 19 = F19 := by kernel_rfl
theorem e5_9 : Tab.fn a5 9 = F9 := by kernel_rfl
theorem e5_21 : Tab.fn a5 21 = F21 := by kernel_rfl
theorem e5_20 : Tab.fn a5 20 = F20 := by kernel_rfl
theorem e5_22 : Tab.fn a5 22 = F22 := by kernel_rfl
theorem e5_23 : Tab.fn a5 23 = F23 := by kernel_rfl
theorem e5_24 : Tab.fn a5 24 = F24 := by kernel_rfl
theorem e5_25 : Tab.fn a5 25 = F25 := by kernel_rfl
theorem e5_26 : Tab.fn a5 26 = F26 := by kernel_rfl
theorem e5_27 : Tab.fn a5 27 = F27 := by kernel_rfl
def F5 : Vx.Fn := Vx.Fd t5 (Tab.fn a5)
theorem ga5 : Tab.Good Try.prog True_ a5 := (gcons g7 (gcons g18 (gcons g19 (gcons g9 (gcons g21 (gcons g20 (gcons g22 (gcons g23 (gcons g24 (gcons g25 (gcons g26 (gcons g27 Tab.Good.nil))))))))))))
theorem g5 : Vx.Good Try.prog True_ 5 s5 F5 := good_of_tree hm hI ga5 H5 hs 6 Try.func5 rfl (by kernel_rfl) x5
end Go.Proofs.Ythmiladfdndciaa.XTypPuts

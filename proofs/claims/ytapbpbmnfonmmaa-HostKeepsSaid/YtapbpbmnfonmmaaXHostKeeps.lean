/-
  The trees of tests of the functions that HostKeeps reaches, that each is its code's, and what each function answers.
-/
import Derived.Test.YtapbpbmnfonmmaaVx
import Derived.Test.YtapbpbmnfonmmaaProg
namespace Go.Proofs.Ytapbpbmnfonmmaa.XHostKeeps
open Go.Proofs.Ytapbpbmnfonmmaa.Vx
set_option maxRecDepth 100000
def True_ : World → Prop := fun _ => True
theorem hI : ∀ (M : Nat → Prop) (w w' : World), True_ w → Vx.Bel M w w' → True_ w' := fun _ _ _ _ _ => trivial
theorem hm : Try.prog.follows .mixedOrders = true := by kernel_rfl
def hs : List (Nat × Hint) := []
/-! slices.Clone[[]byte,byte] -/
def s10 : Sig := ⟨[(.v (.lf [(.i .u8)]))], [(.v (.lo 5 [(.i .u8)]))]⟩
def H10 : Hint := ⟨[], [], [], 12, false⟩
def t10 : Vx.T := (.nz 0 (.ret [] [] [.nil]) (.lst [(.els [])] (.rq (.an (.cm .leq (.ln 1) (.n 17592186044416)) (.cm .leq (.ln 0) (.n 17592186044416))) (.lst [(.ap (.v 1) (.v 0))] (.ret [] [] [(.v 2)])))))
def a10 : Tab := []
theorem x10 : sxFn Try.prog (Tab.sig a10) (inlN Try.prog (Tab.sig a10) (hintOf hs) 6) H10 Try.f10 (Try.f10.body.getD .skip) s10 = t10 := by kernel_rfl
def F10 : Vx.Fn := Vx.Fd t10 (Tab.fn a10)
theorem g10 : Vx.Good Try.prog True_ 10 s10 F10 := good_of_tree hm hI Tab.Good.nil H10 hs 6 Try.func10 rfl (by kernel_rfl) x10
/-! slices.Clone[[]int,int] -/
def s11 : Sig := ⟨[(.v (.lf [(.i .i64)]))], [(.v (.lo 3 [(.i .i64)]))]⟩
def H11 : Hint := ⟨[], [], [], 12, false⟩
def t11 : Vx.T := (.nz 0 (.ret [] [] [.nil]) (.lst [(.els [])] (.rq (.an (.cm .leq (.ln 1) (.n 3909374676536)) (.cm .leq (.ln 0) (.n 3909374676536))) (.lst [(.ap (.v 1) (.v 0))] (.ret [] [] [(.v 2)])))))
def a11 : Tab := []
theorem x11 : sxFn Try.prog (Tab.sig a11) (inlN Try.prog (Tab.sig a11) (hintOf hs) 6) H11 Try.f11 (Try.f11.body.getD .skip) s11 = t11 := by kernel_rfl
def F11 : Vx.Fn := Vx.Fd t11 (Tab.fn a11)
theorem g11 : Vx.Good Try.prog True_ 11 s11 F11 := good_of_tree hm hI Tab.Good.nil H11 hs 6 Try.func11 rfl (by kernel_rfl) x11
/-! slices.Clone[[]uint64,uint64] -/
def s12 : Sig := ⟨[(.v (.lf [(.i .u64)]))], [(.v (.lo 41 [(.i .u64)]))]⟩
def H12 : Hint := ⟨[], [], [], 12, false⟩
def t12 : Vx.T := (.nz 0 (.ret [] [] [.nil]) (.lst [(.els [])] (.rq (.an (.cm .leq (.ln 1) (.n 3909374676536)) (.cm .leq (.ln 0) (.n 3909374676536))) (.lst [(.ap (.v 1) (.v 0))] (.ret [] [] [(.v 2)])))))
def a12 : Tab := []
theorem x12 : sxFn Try.prog (Tab.sig a12) (inlN Try.prog (Tab.sig a12) (hintOf hs) 6) H12 Try.f12 (Try.f12.body.getD .skip) s12 = t12 := by kernel_rfl
def F12 : Vx.Fn := Vx.Fd t12 (Tab.fn a12)
theorem g12 : Vx.Good Try.prog True_ 12 s12 F12 := good_of_tree hm hI Tab.Good.nil H12 hs 6 Try.func12 rfl (by kernel_rfl) x12
/-! slices.Clone[[]bool,bool] -/
def s13 : Sig := ⟨[(.v (.lf [.b]))], [(.v (.lo 4 [.b]))]⟩
def H13 : Hint := ⟨[], [], [], 12, false⟩
def t13 : Vx.T := (.nz 0 (.ret [] [] [.nil]) (.lst [(.els [])] (.rq (.an (.cm .leq (.ln 1) (.n 17592186044416)) (.cm .leq (.ln 0) (.n 17592186044416))) (.lst [(.ap (.v 1) (.v 0))] (.ret [] [] [(.v 2)])))))
def a13 : Tab := []
theorem x13 : sxFn Try.prog (Tab.sig a13) (inlN Try.prog (Tab.sig a13) (hintOf hs) 6) H13 Try.f13 (Try.f13.body.getD .skip) s13 = t13 := by kernel_rfl
def F13 : Vx.Fn := Vx.Fd t13 (Tab.fn a13)
theorem g13 : Vx.Good Try.prog True_ 13 s13 F13 := good_of_tree hm hI Tab.Good.nil H13 hs 6 Try.func13 rfl (by kernel_rfl) x13
/-! trammel/host.Call -/
def s8 : Sig := ⟨[(.agg [(.lf [(.i .i64)]), (.lf [(.i .i64)])]), (.agg [.b, .b, (.lf [(.i .u64)]), (.i .i64), (.lf [(.i .u8)])]), (.agg [(.lf [(.i .u8)]), (.i .i64), (.lf [(.i .i64)]), (.lf [(.i .u64)]), (.lf [.b]), (.lf [.b])])], [(.agg [(.lo 5 [(.i .u8)]), (.i .i64), (.lo 3 [(.i .i64)]), (.lo 41 [(.i .u64)]), (.lo 4 [.b]), (.lo 4 [.b])]), (.v (.lo 41 [(.i .u64)])), (.v (.i .i64))]⟩
def H8 : Hint := ⟨[], [(14, some ⟨[(11, false, [.lo 41 [(.i .u64)]]), (69, false, [.i .i64])], [], [], [12, 13, 14, 70, 71, 72, 73, 74, 75, 76, 77, 78, 79, 80, 81, 82, 83, 84, 85, 86, 87, 88, 89, 90, 91, 92, 93], [], []⟩), (100007, some ⟨[(9, false, [.i .i64]), (10, false, [.i .i64])], [], [], [40, 41, 42, 43, 44, 45, 46, 47, 48, 49, 50, 51], [], []⟩), (100008, some ⟨[(10, false, [.i .i64])], [], [], [46, 47, 48, 49], [], []⟩), (100011, some ⟨[], [], [9], [57, 58, 59, 60, 61, 62, 63, 64, 65], [], []⟩), (100018, some ⟨[(14, false, [.i .u64])], [], [], [79, 80, 81, 82, 83], [], []⟩), (100020, some ⟨[(14, false, [.i .u64])], [], [], [86, 87, 88], [], []⟩)], [], 12, false⟩
def l8_1 : Vx.T := (.ite (.cm .lss (.iv 6) (.ln 1)) (.rq (.cm .geq (.iv 6) (.n 0)) (.jn (.ite (.cm .lss (.iv 6) (.ln 2)) (.brk 0 [(.ix 2 (.iv 6) 0)] [] []) (.brk 0 [(.n 0)] [] [])) 1 0 0 (.rq (.cm .eql (.iv 7) (.n 0)) (.jn (.ite (.cm .eql (.ix 1 (.iv 6) 0) (.n 127)) (.brk 0 [(.cv .u64 (.cv .u32 (.iv 8)))] [] []) (.brk 0 [(.iv 8)] [] [])) 1 0 0 (.rq (.cm .eql (.iv 9) (.n 0)) (.lst [(.els [[(.i (.iv 10))]])] (.rq (.an (.cm .leq (.ln 15) (.n 3909374676536)) (.cm .leq (.ln 16) (.n 3909374676536))) (.lst [(.ap (.v 15) (.v 16))] (.nxt [(.ar .add .i64 (.iv 6) (.n 1))] [] [(.v 17)]))))))))) (.brk 2 [(.iv 6)] [] [(.v 15)]))
def k8_2 : Vx.T := (.rq (.cm .eql (.iv 6) (.n 2)) (.ret [(.iv 1), (.n 0)] [] [(.v 14), (.v 10), (.v 11), (.v 12), (.v 13), (.v 15)]))
def t8 : Vx.T := (.call 10 [] [] [(.v 4)] 0 0 1 (.call 11 [] [] [(.v 5)] 0 0 1 (.call 12 [] [] [(.v 6)] 0 0 1 (.call 13 [] [] [(.v 7)] 0 0 1 (.call 13 [] [] [(.v 8)] 0 0 1 (.ite (.bv 1) (.ret [(.iv 1), (.n 9)] [] [(.v 9), (.v 10), (.v 11), (.v 12), (.v 13), .nil]) (.jn (.ite (.cm .lss (.iv 0) (.n 0)) (.jn (.ite (.cm .lss (.iv 0) (.ar .sub .i64 (.n 0) (.ln 3))) (.brk 0 [(.ar .sub .i64 (.n 0) (.ln 3))] [] []) (.brk 0 [(.iv 0)] [] [])) 1 0 0 (.rq (.cm .eql (.iv 2) (.n 0)) (.brk 0 [(.ar .sub .i64 (.n 0) (.iv 3)), (.n 0)] [] []))) (.brk 0 [(.n 0), (.iv 0)] [] [])) 2 0 0 (.rq (.cm .eql (.iv 2) (.n 0)) (.jn (.ite (.cm .lss (.iv 4) (.ln 9)) (.both (.rq (.an (.cm .leq (.n 0) (.iv 4)) (.an (.cm .leq (.iv 4) (.ln 9)) (.cm .leq (.ln 9) (.ln 9)))) (.rq (.an (.cm .leq (.n 0) (.iv 3)) (.an (.cm .leq (.iv 3) (.ln 3)) (.cm .leq (.ln 3) (.ln 3)))) (.lst [(.cut (.v 3) (.iv 3) (.ln 3))] (.rq (.an (.cm .leq (.n 0) (.iv 4)) (.cm .leq (.iv 4) (.ln 9))) (.lst [(.cp 9 (.iv 4) 14)] (.brk 0 [] [] [(.v 15)])))))) (.rq (.an (.cm .leq (.n 0) (.iv 3)) (.an (.cm .leq (.iv 3) (.ln 3)) (.cm .leq (.ln 3) (.ln 3)))) (.lst [(.cut (.v 3) (.iv 3) (.ln 3))] (.rq (.an (.cm .leq (.n 0) (.iv 4)) (.an (.cm .leq (.iv 4) (.ln 9)) (.cm .leq (.ln 9) (.ln 9)))) (.rq (.an (.cm .leq (.n 0) (.iv 4)) (.cm .leq (.iv 4) (.ln 9))) (.lst [(.cp 9 (.iv 4) 14)] (.brk 0 [] [] [(.v 15)]))))))) (.brk 0 [] [] [(.v 9)])) 0 0 1 (.rq (.cm .eql (.iv 5) (.n 0)) (.lp [(.n 0)] [] [.nil] 1 0 1 l8_1 k8_2)))))))))))
def a8 : Tab := [⟨10, s10, F10⟩, ⟨11, s11, F11⟩, ⟨12, s12, F12⟩, ⟨13, s13, F13⟩]
theorem x8 : sxFn Try.prog (Tab.sig a8) (inlN Try.prog (Tab.sig a8) (hintOf hs) 6) H8 Try.f8 (Try.f8.body.getD .skip) s8 = t8 := by kernel_rfl
theorem e8_10 : Tab.fn a8 10 = F10 := rfl
theorem e8_11 : Tab.fn a8 11 = F11 := rfl
theorem e8_12 : Tab.fn a8 12 = F12 := rfl
theorem e8_13 : Tab.fn a8 13 = F13 := rfl
def F8 : Vx.Fn := Vx.Fd t8 (Tab.fn a8)
theorem g8 : Vx.Good Try.prog True_ 8 s8 F8 := good_of_tree hm hI (Tab.Good.cons g10 (Tab.Good.cons g11 (Tab.Good.cons g12 (Tab.Good.cons g13 Tab.Good.nil)))) H8 hs 6 Try.func8 rfl (by kernel_rfl) x8
/-! trammel/trammellaw14.awake -/
def s5 : Sig := ⟨[], [(.v .b)]⟩
def H5 : Hint := ⟨[], [], [], 12, false⟩
def t5 : Vx.T := (.lst [(.els [[(.i (.n 127))]])] (.lst [(.els [[(.i (.n 4294967301))]])] (.lst [(.els [[(.i (.n 7))], [(.i (.n 8))]])] (.lst [(.els [[(.i (.n 1))], [(.i (.n 2))]])] (.call 8 [(.n (-1)), (.n 0)] [(.t false), (.t false)] [.nil, (.v 0), (.v 1), (.v 2), (.v 3), .nil, .nil, .nil, .nil] 2 0 6 (.lb (.an (.cm .eql (.iv 1) (.n 0)) (.cm .eql (.ln 9) (.n 1))) (.rq (.oo (.nt (.bv 0)) (.cm .lss (.n 0) (.ln 9))) (.ite (.bv 0) (.rq (.cm .lss (.n 0) (.ln 9)) (.lb (.an (.cm .eql (.ix 9 (.n 0) 0) (.n 5)) (.cm .eql (.ln 4) (.n 2))) (.rq (.oo (.nt (.bv 1)) (.cm .lss (.n 0) (.ln 4))) (.ite (.bv 1) (.rq (.cm .lss (.n 0) (.ln 4)) (.rq (.oo (.nt (.cm .eql (.ix 4 (.n 0) 0) (.n 8))) (.cm .lss (.n 1) (.ln 4))) (.ite (.cm .eql (.ix 4 (.n 0) 0) (.n 8)) (.rq (.cm .lss (.n 1) (.ln 4)) (.ret [] [(.cm .eql (.ix 4 (.n 1) 0) (.n 2))] [])) (.ret [] [(.t false)] [])))) (.ret [] [(.t false)] []))))) (.ret [] [(.t false)] [])))))))))
def a5 : Tab := [⟨8, s8, F8⟩]
theorem x5 : sxFn Try.prog (Tab.sig a5) (inlN Try.prog (Tab.sig a5) (hintOf hs) 6) H5 Try.f5 (Try.f5.body.getD .skip) s5 = t5 := by kernel_rfl
theorem e5_8 : Tab.fn a5 8 = F8 := rfl
def F5 : Vx.Fn := Vx.Fd t5 (Tab.fn a5)
theorem g5 : Vx.Good Try.prog True_ 5 s5 F5 := good_of_tree hm hI (Tab.Good.cons g8 Tab.Good.nil) H5 hs 6 Try.func5 rfl (by kernel_rfl) x5
/-! trammel/trammellaw14.small -/
def s6 : Sig := ⟨[(.agg [(.lf [(.i .u8)]), (.i .i64), (.lf [(.i .i64)]), (.lf [(.i .u64)]), (.lf [.b]), (.lf [.b])])], [(.v .b)]⟩
def H6 : Hint := ⟨[], [], [], 12, false⟩
def t6 : Vx.T := (.lb (.an (.cm .leq (.ln 0) (.n 3000)) (.cm .leq (.ln 1) (.n 100))) (.lb (.an (.an (.bv 0) (.cm .leq (.ln 2) (.n 100))) (.cm .leq (.ln 3) (.n 100))) (.ret [] [(.an (.bv 1) (.cm .leq (.ln 4) (.n 100)))] [])))
def a6 : Tab := []
theorem x6 : sxFn Try.prog (Tab.sig a6) (inlN Try.prog (Tab.sig a6) (hintOf hs) 6) H6 Try.f6 (Try.f6.body.getD .skip) s6 = t6 := by kernel_rfl
def F6 : Vx.Fn := Vx.Fd t6 (Tab.fn a6)
theorem g6 : Vx.Good Try.prog True_ 6 s6 F6 := good_of_tree hm hI Tab.Good.nil H6 hs 6 Try.func6 rfl (by kernel_rfl) x6
/-! trammel/trammelref14.Short -/
def s7 : Sig := ⟨[(.v (.lf [.b, .b, (.sl [(.i .u64)]), (.i .i64), (.sl [(.i .u8)])]))], [(.v .b)]⟩
def H7 : Hint := ⟨[], [(5, some ⟨[(2, false, [.b]), (3, false, [.i .i64])], [], [], [7, 8, 9, 10, 11, 12, 13, 14, 15, 16, 17, 18, 19, 20, 21, 22, 23, 24, 25, 26, 27, 28], [], []⟩)], [], 12, false⟩
def l7_1 : Vx.T := (.ite (.cm .lss (.iv 0) (.ln 0)) (.rq (.cm .geq (.iv 0) (.n 0)) (.lst [(.cl 0 (.iv 0) 2)] (.rq (.oo (.cm .gtr (.ln 1) (.n 20)) (.an (.cm .geq (.iv 0) (.n 0)) (.cm .lss (.iv 0) (.ln 0)))) (.ite (.nt (.cm .gtr (.ln 1) (.n 20))) (.lst [(.cl 0 (.iv 0) 4)] (.ite (.cm .gtr (.ln 2) (.n 200)) (.rt (.ret [] [(.t false)] [])) (.nxt [(.ar .add .i64 (.iv 0) (.n 1))] [(.bv 0)] []))) (.rt (.ret [] [(.t false)] [])))))) (.brk 2 [(.iv 0)] [(.bv 0)] []))
def k7_2 : Vx.T := (.rq (.cm .eql (.iv 0) (.n 2)) (.ret [] [(.t true)] []))
def t7 : Vx.T := (.ite (.cm .gtr (.ln 0) (.n 60)) (.ret [] [(.t false)] []) (.lp [(.n 0)] [(.t false)] [] 1 1 0 l7_1 k7_2))
def a7 : Tab := []
theorem x7 : sxFn Try.prog (Tab.sig a7) (inlN Try.prog (Tab.sig a7) (hintOf hs) 6) H7 Try.f7 (Try.f7.body.getD .skip) s7 = t7 := by kernel_rfl
def F7 : Vx.Fn := Vx.Fd t7 (Tab.fn a7)
theorem g7 : Vx.Good Try.prog True_ 7 s7 F7 := good_of_tree hm hI Tab.Good.nil H7 hs 6 Try.func7 rfl (by kernel_rfl) x7
/-! trammel/trammelref05.SameInts -/
def s14 : Sig := ⟨[(.v (.lf [(.i .i64)])), (.v (.lf [(.i .i64)]))], [(.v .b)]⟩
def H14 : Hint := ⟨[], [(5, some ⟨[(4, false, [.b]), (5, false, [.i .i64])], [], [], [11, 12, 13, 14, 15, 16, 17, 18, 19, 20, 21, 22, 23, 24, 25], [], []⟩)], [], 12, false⟩
def l14_1 : Vx.T := (.ite (.cm .lss (.iv 0) (.ln 0)) (.rq (.cm .geq (.iv 0) (.n 0)) (.rq (.cm .lss (.iv 0) (.ln 1)) (.ite (.cm .neq (.ix 0 (.iv 0) 0) (.ix 1 (.iv 0) 0)) (.rt (.ret [] [(.t false)] [])) (.nxt [(.ar .add .i64 (.iv 0) (.n 1))] [(.bv 0)] [])))) (.brk 2 [(.iv 0)] [(.bv 0)] []))
def k14_2 : Vx.T := (.rq (.cm .eql (.iv 0) (.n 2)) (.ret [] [(.t true)] []))
def t14 : Vx.T := (.ite (.cm .neq (.ln 0) (.ln 1)) (.ret [] [(.t false)] []) (.lp [(.n 0)] [(.t false)] [] 1 1 0 l14_1 k14_2))
def a14 : Tab := []
theorem x14 : sxFn Try.prog (Tab.sig a14) (inlN Try.prog (Tab.sig a14) (hintOf hs) 6) H14 Try.f14 (Try.f14.body.getD .skip) s14 = t14 := by kernel_rfl
def F14 : Vx.Fn := Vx.Fd t14 (Tab.fn a14)
theorem g14 : Vx.Good Try.prog True_ 14 s14 F14 := good_of_tree hm hI Tab.Good.nil H14 hs 6 Try.func14 rfl (by kernel_rfl) x14
/-! trammel/trammelref13.SameNumbers -/
def s15 : Sig := ⟨[(.v (.lf [(.i .u64)])), (.v (.lf [(.i .u64)]))], [(.v .b)]⟩
def H15 : Hint := ⟨[], [(5, some ⟨[(4, false, [.b]), (5, false, [.i .i64])], [], [], [11, 12, 13, 14, 15, 16, 17, 18, 19, 20, 21, 22, 23, 24, 25], [], []⟩)], [], 12, false⟩
def l15_1 : Vx.T := (.ite (.cm .lss (.iv 0) (.ln 0)) (.rq (.cm .geq (.iv 0) (.n 0)) (.rq (.cm .lss (.iv 0) (.ln 1)) (.ite (.cm .neq (.ix 0 (.iv 0) 0) (.ix 1 (.iv 0) 0)) (.rt (.ret [] [(.t false)] [])) (.nxt [(.ar .add .i64 (.iv 0) (.n 1))] [(.bv 0)] [])))) (.brk 2 [(.iv 0)] [(.bv 0)] []))
def k15_2 : Vx.T := (.rq (.cm .eql (.iv 0) (.n 2)) (.ret [] [(.t true)] []))
def t15 : Vx.T := (.ite (.cm .neq (.ln 0) (.ln 1)) (.ret [] [(.t false)] []) (.lp [(.n 0)] [(.t false)] [] 1 1 0 l15_1 k15_2))
def a15 : Tab := []
theorem x15 : sxFn Try.prog (Tab.sig a15) (inlN Try.prog (Tab.sig a15) (hintOf hs) 6) H15 Try.f15 (Try.f15.body.getD .skip) s15 = t15 := by kernel_rfl
def F15 : Vx.Fn := Vx.Fd t15 (Tab.fn a15)
theorem g15 : Vx.Good Try.prog True_ 15 s15 F15 := good_of_tree hm hI Tab.Good.nil H15 hs 6 Try.func15 rfl (by kernel_rfl) x15
/-! trammel/trammelref13.SameBools -/
def s16 : Sig := ⟨[(.v (.lf [.b])), (.v (.lf [.b]))], [(.v .b)]⟩
def H16 : Hint := ⟨[], [(5, some ⟨[(4, false, [.b]), (5, false, [.i .i64])], [], [], [11, 12, 13, 14, 15, 16, 17, 18, 19, 20, 21, 22, 23, 24, 25], [], []⟩)], [], 12, false⟩
def l16_1 : Vx.T := (.ite (.cm .lss (.iv 0) (.ln 0)) (.rq (.cm .geq (.iv 0) (.n 0)) (.rq (.cm .lss (.iv 0) (.ln 1)) (.ite (.nt (.be (.bx 0 (.iv 0) 0) (.bx 1 (.iv 0) 0))) (.rt (.ret [] [(.t false)] [])) (.nxt [(.ar .add .i64 (.iv 0) (.n 1))] [(.bv 0)] [])))) (.brk 2 [(.iv 0)] [(.bv 0)] []))
def k16_2 : Vx.T := (.rq (.cm .eql (.iv 0) (.n 2)) (.ret [] [(.t true)] []))
def t16 : Vx.T := (.ite (.cm .neq (.ln 0) (.ln 1)) (.ret [] [(.t false)] []) (.lp [(.n 0)] [(.t false)] [] 1 1 0 l16_1 k16_2))
def a16 : Tab := []
theorem x16 : sxFn Try.prog (Tab.sig a16) (inlN Try.prog (Tab.sig a16) (hintOf hs) 6) H16 Try.f16 (Try.f16.body.getD .skip) s16 = t16 := by kernel_rfl
def F16 : Vx.Fn := Vx.Fd t16 (Tab.fn a16)
theorem g16 : Vx.Good Try.prog True_ 16 s16 F16 := good_of_tree hm hI Tab.Good.nil H16 hs 6 Try.func16 rfl (by kernel_rfl) x16
/-! trammel/trammelref13.Same -/
def s9 : Sig := ⟨[(.agg [(.lf [(.i .u8)]), (.i .i64), (.lf [(.i .i64)]), (.lf [(.i .u64)]), (.lf [.b]), (.lf [.b])]), (.agg [(.lf [(.i .u8)]), (.i .i64), (.lf [(.i .i64)]), (.lf [(.i .u64)]), (.lf [.b]), (.lf [.b])])], [(.v .b)]⟩
def H9 : Hint := ⟨[], [], [], 12, false⟩
def t9 : Vx.T := (.rq (.by_ 0) (.lst [(.v 0)] (.rq (.by_ 5) (.lst [(.v 5)] (.ite (.an (.lq 10 11) (.cm .eql (.iv 0) (.iv 1))) (.call 14 [] [] [(.v 1), (.v 6)] 0 1 0 (.ite (.bv 0) (.call 15 [] [] [(.v 2), (.v 7)] 0 1 0 (.ite (.bv 1) (.call 16 [] [] [(.v 3), (.v 8)] 0 1 0 (.ite (.bv 2) (.call 16 [] [] [(.v 4), (.v 9)] 0 1 0 (.ret [] [(.bv 3)] [])) (.ret [] [(.t false)] []))) (.ret [] [(.t false)] []))) (.ret [] [(.t false)] []))) (.ret [] [(.t false)] []))))))
def a9 : Tab := [⟨14, s14, F14⟩, ⟨15, s15, F15⟩, ⟨16, s16, F16⟩]
theorem x9 : sxFn Try.prog (Tab.sig a9) (inlN Try.prog (Tab.sig a9) (hintOf hs) 6) H9 Try.f9 (Try.f9.body.getD .skip) s9 = t9 := by kernel_rfl
theorem e9_14 : Tab.fn a9 14 = F14 := rfl
theorem e9_15 : Tab.fn a9 15 = F15 := rfl
theorem e9_16 : Tab.fn a9 16 = F16 := rfl
def F9 : Vx.Fn := Vx.Fd t9 (Tab.fn a9)
theorem g9 : Vx.Good Try.prog True_ 9 s9 F9 := good_of_tree hm hI (Tab.Good.cons g14 (Tab.Good.cons g15 (Tab.Good.cons g16 Tab.Good.nil))) H9 hs 6 Try.func9 rfl (by kernel_rfl) x9
/-! trammel/trammellaw14.HostKeeps -/
def s3 : Sig := ⟨[(.agg [(.lf [(.i .i64)]), (.lf [(.i .i64)])]), (.agg [.b, .b, (.lf [(.i .u64)]), (.i .i64), (.lf [(.i .u8)])]), (.agg [(.lf [(.i .u8)]), (.i .i64), (.lf [(.i .i64)]), (.lf [(.i .u64)]), (.lf [.b]), (.lf [.b])])], [(.v .b)]⟩
def H3 : Hint := ⟨[], [(11, some ⟨[(10, false, [.i .i64]), (11, false, [.i .i64])], [], [], [60, 61, 62, 63, 64, 65, 66, 67, 68, 69, 70, 71, 72, 73, 74, 75, 76, 77, 78, 79], [], []⟩)], [], 12, false⟩
def l3_1 : Vx.T := (.ite (.cm .lss (.iv 5) (.ln 4)) (.rq (.cm .geq (.iv 5) (.n 0)) (.rq (.cm .lss (.iv 5) (.ln 10)) (.ite (.cm .neq (.ix 4 (.iv 5) 0) (.ix 10 (.iv 5) 0)) (.nxt [(.ar .add .i64 (.iv 4) (.n 1)), (.ar .add .i64 (.iv 5) (.n 1))] [] []) (.nxt [(.iv 4), (.ar .add .i64 (.iv 5) (.n 1))] [] [])))) (.brk 2 [(.iv 4), (.iv 5)] [] []))
def k3_2 : Vx.T := (.rq (.cm .eql (.iv 4) (.n 2)) (.lb (.oo (.cm .gtr (.iv 5) (.ln 3)) (.an (.bv 1) (.cm .gtr (.iv 5) (.n 0)))) (.lb (.oo (.bv 7) (.an (.bv 1) (.cm .neq (.ln 15) (.n 0)))) (.lb (.oo (.bv 8) (.an (.nt (.bv 1)) (.cm .neq (.ln 15) (.ln 1)))) (.ite (.bv 9) (.ret [] [(.t false)] []) (.call 9 [(.iv 2), (.iv 1)] [] [(.v 4), (.v 11), (.v 12), (.v 13), (.v 14), (.v 4), (.v 5), (.v 6), (.v 7), (.v 8)] 0 1 0 (.ret [] [(.bv 10)] [])))))))
def t3 : Vx.T := (.call 5 [] [] [] 0 1 0 (.ite (.nt (.bv 2)) (.ret [] [(.t false)] []) (.call 6 [(.iv 1)] [] [(.v 4), (.v 5), (.v 6), (.v 7), (.v 8)] 0 1 0 (.ite (.nt (.oo (.nt (.bv 3)) (.cm .gtr (.ln 1) (.n 100)))) (.lst [(.els [[(.b (.bv 0)), (.b (.bv 1)), (.l 2), (.i (.iv 0)), (.l 3)]])] (.call 7 [] [] [(.v 9)] 0 1 0 (.ite (.nt (.bv 4)) (.ret [] [(.t true)] []) (.call 8 [(.iv 0), (.iv 1)] [(.bv 0), (.bv 1)] [(.v 0), (.v 1), (.v 2), (.v 3), (.v 4), (.v 5), (.v 6), (.v 7), (.v 8)] 2 0 6 (.lb (.oo (.cm .neq (.ln 10) (.ln 4)) (.nt (.be (.bv 1) (.cm .eql (.iv 3) (.n 9))))) (.lb (.oo (.bv 5) (.an (.nt (.bv 1)) (.cm .neq (.iv 3) (.n 0)))) (.ite (.bv 6) (.ret [] [(.t false)] []) (.lp [(.n 0), (.n 0)] [] [] 2 0 0 l3_1 k3_2)))))))) (.ret [] [(.t true)] [])))))
def a3 : Tab := [⟨5, s5, F5⟩, ⟨6, s6, F6⟩, ⟨7, s7, F7⟩, ⟨8, s8, F8⟩, ⟨9, s9, F9⟩]
theorem x3 : sxFn Try.prog (Tab.sig a3) (inlN Try.prog (Tab.sig a3) (hintOf hs) 6) H3 Try.f3 (Try.f3.body.getD .skip) s3 = t3 := by kernel_rfl
theorem e3_5 : Tab.fn a3 5 = F5 := rfl
theorem e3_6 : Tab.fn a3 6 = F6 := rfl
theorem e3_7 : Tab.fn a3 7 = F7 := rfl
theorem e3_8 : Tab.fn a3 8 = F8 := rfl
theorem e3_9 : Tab.fn a3 9 = F9 := rfl
def F3 : Vx.Fn := Vx.Fd t3 (Tab.fn a3)
theorem g3 : Vx.Good Try.prog True_ 3 s3 F3 := good_of_tree hm hI (Tab.Good.cons g5 (Tab.Good.cons g6 (Tab.Good.cons g7 (Tab.Good.cons g8 (Tab.Good.cons g9 Tab.Good.nil))))) H3 hs 6 Try.func3 rfl (by kernel_rfl) x3
end Go.Proofs.Ytapbpbmnfonmmaa.XHostKeeps

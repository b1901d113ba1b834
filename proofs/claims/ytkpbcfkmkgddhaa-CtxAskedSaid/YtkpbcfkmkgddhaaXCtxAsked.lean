/-
  The trees of tests of the functions that CtxAsked reaches, that each is its code's, and what each function answers.
-/
import Derived.Test.YtkpbcfkmkgddhaaVx
import Derived.Test.YtkpbcfkmkgddhaaProg
namespace Go.Proofs.Ytkpbcfkmkgddhaa.XCtxAsked
open Go.Proofs.Ytkpbcfkmkgddhaa.Vx
set_option maxRecDepth 100000
def True_ : World → Prop := fun _ => True
theorem hI : ∀ (M : Nat → Prop) (w w' : World), True_ w → Vx.Bel M w w' → True_ w' := fun _ _ _ _ _ => trivial
theorem hm : Try.prog.follows .mixedOrders = true := by kernel_rfl
theorem gcons {f : Nat} {s : Sig} {F : Vx.Fn} {r : Tab} (h : Vx.Good Try.prog True_ f s F) (t : Tab.Good Try.prog True_ r) : Tab.Good Try.prog True_ (⟨f, s, F⟩ :: r) := Tab.Good.cons (e := ⟨f, s, F⟩) h t
def hs : List (Nat × Hint) := [(28, ⟨[], [], [], 12, true⟩)]
/-! slices.Clone[[]int,int] -/
def s37 : Sig := ⟨[(.v (.lf [(.i .i64)]))], [(.v (.lo 3 [(.i .i64)]))]⟩
def H37 : Hint := ⟨[], [], [], 12, false⟩
def t37 : Vx.T := (.nz 0 (.ret [] [] [.nil]) (.lst [(.els [])] (.rq (.an (.cm .leq (.ln 1) (.n 3909374676536)) (.cm .leq (.ln 0) (.n 3909374676536))) (.lst [(.ap (.v 1) (.v 0))] (.ret [] [] [(.v 2)])))))
def a37 : Tab := []
theorem x37 : sxFn Try.prog (Tab.sig a37) (inlN Try.prog (Tab.sig a37) (hintOf hs) 6) H37 Try.f37 (Try.f37.body.getD .skip) s37 = t37 := by kernel_rfl
def F37 : Vx.Fn := Vx.Fd t37 (Tab.fn a37)
theorem g37 : Vx.Good Try.prog True_ 37 s37 F37 := good_of_tree hm hI Tab.Good.nil H37 hs 6 Try.func37 rfl (by kernel_rfl) x37
/-! trammel/ctx.copied -/
def s24 : Sig := ⟨[(.agg [(.lf [(.i .i64)]), (.lf [(.i .i64)])])], [(.agg [(.lo 3 [(.i .i64)]), (.lo 3 [(.i .i64)])])]⟩
def H24 : Hint := ⟨[], [], [], 12, false⟩
def t24 : Vx.T := (.call 37 [] [] [(.v 0)] 0 0 1 (.call 37 [] [] [(.v 1)] 0 0 1 (.ret [] [] [(.v 2), (.v 3)])))
def a24 : Tab := [⟨37, s37, F37⟩]
theorem x24 : sxFn Try.prog (Tab.sig a24) (inlN Try.prog (Tab.sig a24) (hintOf hs) 6) H24 Try.f24 (Try.f24.body.getD .skip) s24 = t24 := by kernel_rfl
theorem e24_37 : Tab.fn a24 37 = F37 := rfl
def F24 : Vx.Fn := Vx.Fd t24 (Tab.fn a24)
theorem g24 : Vx.Good Try.prog True_ 24 s24 F24 := good_of_tree hm hI (gcons g37 Tab.Good.nil) H24 hs 6 Try.func24 rfl (by kernel_rfl) x24
/-! trammel/ctx.has -/
def s30 : Sig := ⟨[(.v (.i .i64)), (.v (.i .i64))], [(.v .b)]⟩
def H30 : Hint := ⟨[], [], [], 12, false⟩
def t30 : Vx.T := (.lb (.an (.cm .geq (.iv 0) (.n 0)) (.cm .lss (.iv 0) (.iv 1))) (.ret [] [(.bv 0)] []))
def a30 : Tab := []
theorem x30 : sxFn Try.prog (Tab.sig a30) (inlN Try.prog (Tab.sig a30) (hintOf hs) 6) H30 Try.f30 (Try.f30.body.getD .skip) s30 = t30 := by kernel_rfl
def F30 : Vx.Fn := Vx.Fd t30 (Tab.fn a30)
theorem g30 : Vx.Good Try.prog True_ 30 s30 F30 := good_of_tree hm hI Tab.Good.nil H30 hs 6 Try.func30 rfl (by kernel_rfl) x30
/-! trammel/ctx.table -/
def s38 : Sig := ⟨[(.agg [(.i .i64), .b, (.i .i64)])], [(.v (.i .i64))]⟩
def H38 : Hint := ⟨[], [], [], 12, false⟩
def t38 : Vx.T := (.ite (.cm .lss (.iv 0) (.n 0)) (.ite (.cm .lss (.iv 0) (.n 0)) (.ret [(.n 5)] [] []) (.ite (.cm .gtr (.iv 0) (.n 64)) (.ret [(.n 4)] [] []) (.ret [(.n 0)] [] []))) (.ite (.an (.bv 0) (.cm .lss (.iv 1) (.iv 0))) (.ret [(.n 5)] [] []) (.ite (.cm .gtr (.iv 0) (.n 64)) (.ret [(.n 4)] [] []) (.ret [(.n 0)] [] []))))
def a38 : Tab := []
theorem x38 : sxFn Try.prog (Tab.sig a38) (inlN Try.prog (Tab.sig a38) (hintOf hs) 6) H38 Try.f38 (Try.f38.body.getD .skip) s38 = t38 := by kernel_rfl
def F38 : Vx.Fn := Vx.Fd t38 (Tab.fn a38)
theorem g38 : Vx.Good Try.prog True_ 38 s38 F38 := good_of_tree hm hI Tab.Good.nil H38 hs 6 Try.func38 rfl (by kernel_rfl) x38
/-! trammel/ctx.memory -/
def s39 : Sig := ⟨[(.agg [(.i .i64), .b, (.i .i64)])], [(.v (.i .i64))]⟩
def H39 : Hint := ⟨[], [], [], 12, false⟩
def t39 : Vx.T := (.ite (.cm .lss (.iv 0) (.n 0)) (.ite (.cm .lss (.iv 0) (.n 0)) (.ret [(.n 5)] [] []) (.ite (.cm .gtr (.iv 0) (.n 4)) (.ret [(.n 4)] [] []) (.ret [(.n 0)] [] []))) (.ite (.cm .gtr (.iv 0) (.n 65536)) (.ite (.cm .gtr (.iv 0) (.n 65536)) (.ret [(.n 5)] [] []) (.ite (.cm .gtr (.iv 0) (.n 4)) (.ret [(.n 4)] [] []) (.ret [(.n 0)] [] []))) (.lb (.oo (.cm .gtr (.iv 1) (.n 65536)) (.cm .lss (.iv 1) (.iv 0))) (.ite (.an (.bv 0) (.bv 1)) (.ret [(.n 5)] [] []) (.ite (.cm .gtr (.iv 0) (.n 4)) (.ret [(.n 4)] [] []) (.ret [(.n 0)] [] []))))))
def a39 : Tab := []
theorem x39 : sxFn Try.prog (Tab.sig a39) (inlN Try.prog (Tab.sig a39) (hintOf hs) 6) H39 Try.f39 (Try.f39.body.getD .skip) s39 = t39 := by kernel_rfl
def F39 : Vx.Fn := Vx.Fd t39 (Tab.fn a39)
theorem g39 : Vx.Good Try.prog True_ 39 s39 F39 := good_of_tree hm hI Tab.Good.nil H39 hs 6 Try.func39 rfl (by kernel_rfl) x39
/-! (*trammel/ctx.checker).imports -/
def s25 : Sig := ⟨[(.bx [(.lo 46 [(.sl [(.i .i64)]), (.sl [(.i .i64)])]), (.lo 3 [(.i .i64)]), (.lo 89 [(.i .i64), .b]), (.lo 68 [(.i .i64), .b, (.i .i64)]), (.lo 68 [(.i .i64), .b, (.i .i64)]), (.i .i64), (.i .i64), (.i .i64), (.i .i64), .b, (.i .i64)]), (.v (.lf [.s, .s, (.i .i64), (.i .i64), (.i .i64), .b, (.i .i64), .b]))], []⟩
def H25 : Hint := ⟨[], [(2, some ⟨[(8, false, [.i .i64])], [(0, 1, .lo 3 [(.i .i64)]), (0, 2, .lo 89 [(.i .i64), .b]), (0, 3, .lo 68 [(.i .i64), .b, (.i .i64)]), (0, 4, .lo 68 [(.i .i64), .b, (.i .i64)]), (0, 5, .i .i64), (0, 6, .i .i64), (0, 10, .i .i64)], [], [5, 9, 10, 11, 12, 13, 14, 15, 16, 17, 18, 19, 20, 21, 22, 23, 24, 25, 26, 27, 28, 29, 30, 31, 32, 33, 34, 35, 36, 37, 38, 39, 40, 41, 42, 43, 44, 45, 46, 47, 48, 49, 50, 51, 52, 53, 54, 55, 56, 57, 58, 59, 60, 61, 62, 63, 64, 65, 66, 67, 68, 69, 70, 71, 72, 73, 74, 75, 76, 77, 78, 79, 80, 81, 82, 83, 84, 85, 86, 87, 88, 89, 90, 91, 92, 93, 94, 95, 96, 97, 98, 99, 100, 101, 102, 103, 104, 105, 106, 107, 108, 109, 110, 111, 112, 113, 114, 115, 116, 117, 118, 119, 120, 121, 122, 123, 124], [], [1, 2, 3, 4]⟩)], [], 12, false⟩
def l25_1 : Vx.T := (.ite (.cm .lss (.iv 5) (.ln 5)) (.rq (.cm .geq (.iv 5) (.n 0)) (.lst [(.cl 5 (.iv 5) 0), (.cl 5 (.iv 5) 1)] (.ite (.cm .eql (.ix 5 (.iv 5) 2) (.n 0)) (.call 30 [(.ix 5 (.iv 5) 3), (.ln 0)] [] [] 0 1 0 (.ite (.an (.nt (.bv 1)) (.cm .eql (.iv 8) (.n 0))) (.lst [(.els [[(.i (.ix 5 (.iv 5) 3))]])] (.rq (.an (.cm .leq (.ln 6) (.n 3909374676536)) (.cm .leq (.ln 12) (.n 3909374676536))) (.lst [(.ap (.v 6) (.v 12))] (.nxt [(.ar .add .i64 (.iv 5) (.n 1)), (.ar .add .i64 (.iv 6) (.n 1)), (.iv 7), (.n 7)] [] [(.v 13), (.v 7), (.v 8), (.v 9)])))) (.lst [(.els [[(.i (.ix 5 (.iv 5) 3))]])] (.rq (.an (.cm .leq (.ln 6) (.n 3909374676536)) (.cm .leq (.ln 12) (.n 3909374676536))) (.lst [(.ap (.v 6) (.v 12))] (.nxt [(.ar .add .i64 (.iv 5) (.n 1)), (.ar .add .i64 (.iv 6) (.n 1)), (.iv 7), (.iv 8)] [] [(.v 13), (.v 7), (.v 8), (.v 9)])))))) (.ite (.cm .eql (.ix 5 (.iv 5) 2) (.n 1)) (.call 38 [(.ix 5 (.iv 5) 4), (.ix 5 (.iv 5) 6)] [(.bx 5 (.iv 5) 5)] [] 1 0 0 (.call 38 [(.ix 5 (.iv 5) 4), (.ix 5 (.iv 5) 6)] [(.bx 5 (.iv 5) 5)] [] 1 0 0 (.lb (.an (.nt (.cm .eql (.iv 9) (.n 0))) (.cm .eql (.iv 8) (.n 0))) (.ite (.bv 1) (.lst [(.els [[(.i (.ix 5 (.iv 5) 4)), (.b (.bx 5 (.iv 5) 5)), (.i (.ix 5 (.iv 5) 6))]])] (.rq (.an (.cm .leq (.ln 8) (.n 1407374883553)) (.cm .leq (.ln 12) (.n 1407374883553))) (.lst [(.ap (.v 8) (.v 12))] (.nxt [(.ar .add .i64 (.iv 5) (.n 1)), (.iv 6), (.iv 7), (.iv 10)] [] [(.v 6), (.v 7), (.v 13), (.v 9)])))) (.lst [(.els [[(.i (.ix 5 (.iv 5) 4)), (.b (.bx 5 (.iv 5) 5)), (.i (.ix 5 (.iv 5) 6))]])] (.rq (.an (.cm .leq (.ln 8) (.n 1407374883553)) (.cm .leq (.ln 12) (.n 1407374883553))) (.lst [(.ap (.v 8) (.v 12))] (.nxt [(.ar .add .i64 (.iv 5) (.n 1)), (.iv 6), (.iv 7), (.iv 8)] [] [(.v 6), (.v 7), (.v 13), (.v 9)])))))))) (.ite (.cm .eql (.ix 5 (.iv 5) 2) (.n 2)) (.call 39 [(.ix 5 (.iv 5) 4), (.ix 5 (.iv 5) 6)] [(.bx 5 (.iv 5) 5)] [] 1 0 0 (.call 39 [(.ix 5 (.iv 5) 4), (.ix 5 (.iv 5) 6)] [(.bx 5 (.iv 5) 5)] [] 1 0 0 (.lb (.an (.nt (.cm .eql (.iv 9) (.n 0))) (.cm .eql (.iv 8) (.n 0))) (.ite (.bv 1) (.lst [(.els [[(.i (.ix 5 (.iv 5) 4)), (.b (.bx 5 (.iv 5) 5)), (.i (.ix 5 (.iv 5) 6))]])] (.rq (.an (.cm .leq (.ln 9) (.n 1407374883553)) (.cm .leq (.ln 12) (.n 1407374883553))) (.lst [(.ap (.v 9) (.v 12))] (.nxt [(.ar .add .i64 (.iv 5) (.n 1)), (.iv 6), (.iv 7), (.iv 10)] [] [(.v 6), (.v 7), (.v 8), (.v 13)])))) (.lst [(.els [[(.i (.ix 5 (.iv 5) 4)), (.b (.bx 5 (.iv 5) 5)), (.i (.ix 5 (.iv 5) 6))]])] (.rq (.an (.cm .leq (.ln 9) (.n 1407374883553)) (.cm .leq (.ln 12) (.n 1407374883553))) (.lst [(.ap (.v 9) (.v 12))] (.nxt [(.ar .add .i64 (.iv 5) (.n 1)), (.iv 6), (.iv 7), (.iv 8)] [] [(.v 6), (.v 7), (.v 8), (.v 13)])))))))) (.ite (.cm .eql (.ix 5 (.iv 5) 2) (.n 3)) (.lst [(.els [[(.i (.ix 5 (.iv 5) 3)), (.b (.bx 5 (.iv 5) 7))]])] (.rq (.an (.cm .leq (.ln 7) (.n 2069668946401)) (.cm .leq (.ln 12) (.n 2069668946401))) (.lst [(.ap (.v 7) (.v 12))] (.nxt [(.ar .add .i64 (.iv 5) (.n 1)), (.iv 6), (.ar .add .i64 (.iv 7) (.n 1)), (.iv 8)] [] [(.v 6), (.v 13), (.v 8), (.v 9)])))) (.nxt [(.ar .add .i64 (.iv 5) (.n 1)), (.iv 6), (.iv 7), (.iv 8)] [] [(.v 6), (.v 7), (.v 8), (.v 9)]))))))) (.brk 2 [(.iv 5), (.iv 6), (.iv 7), (.iv 8)] [] [(.v 6), (.v 7), (.v 8), (.v 9)]))
def k25_2 : Vx.T := (.rq (.cm .eql (.iv 5) (.n 2)) (.ret [(.iv 7), (.iv 8), (.iv 2), (.iv 3), (.iv 9)] [(.bv 0)] [(.v 0), (.v 6), (.v 7), (.v 8), (.v 9)]))
def t25 : Vx.T := (.lp [(.n 0), (.iv 0), (.iv 1), (.iv 4)] [] [(.v 1), (.v 2), (.v 3), (.v 4)] 4 0 4 l25_1 k25_2)
def a25 : Tab := [⟨30, s30, F30⟩, ⟨38, s38, F38⟩, ⟨39, s39, F39⟩]
theorem x25 : sxFn Try.prog (Tab.sig a25) (inlN Try.prog (Tab.sig a25) (hintOf hs) 6) H25 Try.f25 (Try.f25.body.getD .skip) s25 = t25 := by kernel_rfl
theorem e25_30 : Tab.fn a25 30 = F30 := rfl
theorem e25_38 : Tab.fn a25 38 = F38 := rfl
theorem e25_39 : Tab.fn a25 39 = F39 := rfl
def F25 : Vx.Fn := Vx.Fd t25 (Tab.fn a25)
theorem g25 : Vx.Good Try.prog True_ 25 s25 F25 := good_of_tree hm hI (gcons g30 (gcons g38 (gcons g39 Tab.Good.nil))) H25 hs 6 Try.func25 rfl (by kernel_rfl) x25
/-! trammel/ctx.Constant -/
def s20 : Sig := ⟨[(.agg [(.lf [(.sl [(.i .i64)]), (.sl [(.i .i64)])]), (.lf [(.i .i64)]), (.lf [(.i .i64), .b]), (.lf [(.i .i64), .b, (.i .i64)]), (.lf [(.i .i64), .b, (.i .i64)]), (.i .i64), (.i .i64), (.i .i64), (.i .i64), .b]), (.v (.lf [(.i .i64), (.i .i64), (.i .i64), (.i .i64), (.sl [(.i .i64)])])), (.v (.i .i64))], [(.v .b)]⟩
def H20 : Hint := ⟨[], [], [], 12, false⟩
def t20 : Vx.T := (.rq (.oo (.cm .neq (.ln 5) (.n 2)) (.cm .lss (.n 1) (.ln 5))) (.ite (.nt (.cm .neq (.ln 5) (.n 2))) (.rq (.cm .lss (.n 1) (.ln 5)) (.ite (.cm .neq (.ix 5 (.n 1) 0) (.n 11)) (.ret [] [(.t false)] []) (.rq (.cm .lss (.n 0) (.ln 5)) (.lst [(.cl 5 (.n 0) 4)] (.ite (.cm .eql (.ix 5 (.n 0) 0) (.n 65)) (.ret [] [(.cm .eql (.iv 4) (.n 127))] []) (.ite (.cm .eql (.ix 5 (.n 0) 0) (.n 66)) (.ret [] [(.cm .eql (.iv 4) (.n 126))] []) (.ite (.cm .eql (.ix 5 (.n 0) 0) (.n 35)) (.call 30 [(.ix 5 (.n 0) 1), (.mn (.iv 1) (.ln 2))] [] [] 0 1 0 (.rq (.oo (.nt (.bv 1)) (.an (.cm .geq (.ix 5 (.n 0) 1) (.n 0)) (.cm .lss (.ix 5 (.n 0) 1) (.ln 2)))) (.ite (.bv 1) (.rq (.an (.cm .geq (.ix 5 (.n 0) 1) (.n 0)) (.cm .lss (.ix 5 (.n 0) 1) (.ln 2))) (.lb (.an (.cm .eql (.ix 2 (.ix 5 (.n 0) 1) 0) (.iv 4)) (.be (.bx 2 (.ix 5 (.n 0) 1) 1) (.t false))) (.ret [] [(.bv 2)] []))) (.ret [] [(.t false)] [])))) (.ret [] [(.t false)] [])))))))) (.ret [] [(.t false)] [])))
def a20 : Tab := [⟨30, s30, F30⟩]
theorem x20 : sxFn Try.prog (Tab.sig a20) (inlN Try.prog (Tab.sig a20) (hintOf hs) 6) H20 Try.f20 (Try.f20.body.getD .skip) s20 = t20 := by kernel_rfl
theorem e20_30 : Tab.fn a20 30 = F30 := rfl
def F20 : Vx.Fn := Vx.Fd t20 (Tab.fn a20)
theorem g20 : Vx.Good Try.prog True_ 20 s20 F20 := good_of_tree hm hI (gcons g30 Tab.Good.nil) H20 hs 6 Try.func20 rfl (by kernel_rfl) x20
/-! (*trammel/ctx.checker).own -/
def s26 : Sig := ⟨[(.bx [(.lo 46 [(.sl [(.i .i64)]), (.sl [(.i .i64)])]), (.lo 3 [(.i .i64)]), (.lo 89 [(.i .i64), .b]), (.lo 68 [(.i .i64), .b, (.i .i64)]), (.lo 68 [(.i .i64), .b, (.i .i64)]), (.i .i64), (.i .i64), (.i .i64), (.i .i64), .b, (.i .i64)]), (.agg [(.lf [(.sl [(.i .i64)]), (.sl [(.i .i64)])]), (.lf [.s, .s, (.i .i64), (.i .i64), (.i .i64), .b, (.i .i64), .b]), (.lf [(.i .i64), (.sl [(.i .i64)]), (.sl [(.i .i64), (.i .i64), (.i .i64), (.i .i64), (.sl [(.i .i64)])])]), (.lf [(.i .i64), .b, (.i .i64)]), (.lf [(.i .i64), .b, (.i .i64)]), (.lf [(.i .i64), .b, (.sl [(.i .i64), (.i .i64), (.i .i64), (.i .i64), (.sl [(.i .i64)])])]), (.lf [.s, (.i .i64), (.i .i64)]), (.lf [(.i .i64)]), (.lf [(.i .i64), (.sl [(.i .i64), (.i .i64), (.i .i64), (.i .i64), (.sl [(.i .i64)])]), (.sl [(.i .i64)])]), (.lf [(.i .i64)]), (.lf [(.i .i64), (.sl [(.i .i64), (.i .i64), (.i .i64), (.i .i64), (.sl [(.i .i64)])]), (.sl [(.i .u8)])]), (.lf [.s, (.sl [(.i .u8)])])])], []⟩
def H26 : Hint := ⟨[], [(3, some ⟨[(15, false, [.i .i64])], [(0, 1, .lo 3 [(.i .i64)]), (0, 10, .i .i64)], [], [5, 16, 17, 18, 19, 20, 21, 22, 23, 24, 25, 26, 27, 28, 29, 30, 31, 32, 33, 34, 35, 36, 37, 38, 39, 40, 41, 42, 43], [], [1]⟩)], [9, 15, 23], 1, false⟩
def l26_1 : Vx.T := (.ite (.cm .lss (.iv 5) (.ln 7)) (.rq (.cm .geq (.iv 5) (.n 0)) (.lst [(.cl 7 (.iv 5) 1), (.cl 7 (.iv 5) 2)] (.call 30 [(.ix 7 (.iv 5) 0), (.ln 0)] [] [] 0 1 0 (.ite (.an (.nt (.bv 1)) (.cm .eql (.iv 6) (.n 0))) (.lst [(.els [[(.i (.ix 7 (.iv 5) 0))]])] (.rq (.an (.cm .leq (.ln 17) (.n 3909374676536)) (.cm .leq (.ln 20) (.n 3909374676536))) (.lst [(.ap (.v 17) (.v 20))] (.nxt [(.ar .add .i64 (.iv 5) (.n 1)), (.n 7)] [] [(.v 21)])))) (.lst [(.els [[(.i (.ix 7 (.iv 5) 0))]])] (.rq (.an (.cm .leq (.ln 17) (.n 3909374676536)) (.cm .leq (.ln 20) (.n 3909374676536))) (.lst [(.ap (.v 17) (.v 20))] (.nxt [(.ar .add .i64 (.iv 5) (.n 1)), (.iv 6)] [] [(.v 21)])))))))) (.brk 2 [(.iv 5), (.iv 6)] [] [(.v 17)]))
def b26_1 : Vx.T := (.lst [(.els [[(.i (.ix 8 (.n 0) 0)), (.b (.bx 8 (.n 0) 1)), (.i (.ix 8 (.n 0) 2))]])] (.rq (.an (.cm .leq (.ln 3) (.n 1407374883553)) (.cm .leq (.ln 18) (.n 1407374883553))) (.lst [(.ap (.v 3) (.v 18))] (.fail 9))))
def b26_2 : Vx.T := (.lst [(.els [[(.i (.ix 9 (.n 0) 0)), (.b (.bx 9 (.n 0) 1)), (.i (.ix 9 (.n 0) 2))]])] (.rq (.an (.cm .leq (.ln 4) (.n 1407374883553)) (.cm .leq (.ln 18) (.n 1407374883553))) (.lst [(.ap (.v 4) (.v 18))] (.fail 9))))
def b26_3 : Vx.T := (.lst [(.cl 10 (.n 0) 2)] (.call 20 [(.iv 0), (.iv 1), (.iv 2), (.iv 3), (.ix 10 (.n 0) 0)] [(.bv 0)] [(.v 0), (.v 17), (.v 2), (.v 3), (.v 4), (.v 18)] 0 1 0 (.lst [(.els [[(.i (.ix 10 (.n 0) 0)), (.b (.bx 10 (.n 0) 1))]])] (.fail 6))))
def k26_2 : Vx.T := (.rq (.cm .eql (.iv 5) (.n 2)) (.ite (.cm .lss (.n 0) (.ln 8)) (.call 38 [(.ix 8 (.n 0) 0), (.ix 8 (.n 0) 2)] [(.bx 8 (.n 0) 1)] [] 1 0 0 (.call 38 [(.ix 8 (.n 0) 0), (.ix 8 (.n 0) 2)] [(.bx 8 (.n 0) 1)] [] 1 0 0 (.lb (.an (.nt (.cm .eql (.iv 8) (.n 0))) (.cm .eql (.iv 7) (.n 0))) (.ite (.bv 1) b26_1 b26_1)))) (.ite (.cm .lss (.n 0) (.ln 9)) (.call 39 [(.ix 9 (.n 0) 0), (.ix 9 (.n 0) 2)] [(.bx 9 (.n 0) 1)] [] 1 0 0 (.call 39 [(.ix 9 (.n 0) 0), (.ix 9 (.n 0) 2)] [(.bx 9 (.n 0) 1)] [] 1 0 0 (.lb (.an (.nt (.cm .eql (.iv 8) (.n 0))) (.cm .eql (.iv 7) (.n 0))) (.ite (.bv 1) b26_2 b26_2)))) (.lb (.an (.nt (.cm .leq (.ln 3) (.n 1))) (.cm .eql (.iv 7) (.n 0))) (.ite (.bv 1) (.ite (.cm .lss (.n 0) (.ln 10)) b26_3 (.ret [(.iv 0), (.iv 1), (.iv 2), (.iv 3), (.n 3)] [(.bv 0)] [(.v 0), (.v 17), (.v 2), (.v 3), (.v 4)])) (.lb (.an (.nt (.cm .leq (.ln 4) (.n 1))) (.cm .eql (.iv 7) (.n 0))) (.ite (.bv 2) (.ite (.cm .lss (.n 0) (.ln 10)) b26_3 (.ret [(.iv 0), (.iv 1), (.iv 2), (.iv 3), (.n 8)] [(.bv 0)] [(.v 0), (.v 17), (.v 2), (.v 3), (.v 4)])) (.ite (.cm .lss (.n 0) (.ln 10)) (.lst [(.cl 10 (.n 0) 2)] (.call 20 [(.iv 0), (.iv 1), (.iv 2), (.iv 3), (.ix 10 (.n 0) 0)] [(.bv 0)] [(.v 0), (.v 17), (.v 2), (.v 3), (.v 4), (.v 18)] 0 1 0 (.ite (.an (.nt (.bv 3)) (.cm .eql (.iv 7) (.n 0))) (.lst [(.els [[(.i (.ix 10 (.n 0) 0)), (.b (.bx 10 (.n 0) 1))]])] (.fail 6)) (.lst [(.els [[(.i (.ix 10 (.n 0) 0)), (.b (.bx 10 (.n 0) 1))]])] (.fail 6))))) (.ret [(.iv 0), (.iv 1), (.iv 2), (.iv 3), (.iv 7)] [(.bv 0)] [(.v 0), (.v 17), (.v 2), (.v 3), (.v 4)])))))))))
def t26 : Vx.T := (.lp [(.n 0), (.iv 4)] [] [(.v 1)] 2 0 1 l26_1 k26_2)
def a26 : Tab := [⟨30, s30, F30⟩, ⟨38, s38, F38⟩, ⟨39, s39, F39⟩, ⟨20, s20, F20⟩]
theorem x26 : sxFn Try.prog (Tab.sig a26) (inlN Try.prog (Tab.sig a26) (hintOf hs) 6) H26 Try.f26 (Try.f26.body.getD .skip) s26 = t26 := by kernel_rfl
theorem e26_30 : Tab.fn a26 30 = F30 := rfl
theorem e26_38 : Tab.fn a26 38 = F38 := rfl
theorem e26_39 : Tab.fn a26 39 = F39 := rfl
theorem e26_20 : Tab.fn a26 20 = F20 := rfl
def F26 : Vx.Fn := Vx.Fd t26 (Tab.fn a26)
theorem g26 : Vx.Good Try.prog True_ 26 s26 F26 := good_of_tree hm hI (gcons g30 (gcons g38 (gcons g39 (gcons g20 Tab.Good.nil)))) H26 hs 6 Try.func26 rfl (by kernel_rfl) x26
/-! (*trammel/ctx.checker).exports -/
def s27 : Sig := ⟨[(.bx [(.lf [(.sl [(.i .i64)]), (.sl [(.i .i64)])]), (.lf [(.i .i64)]), (.lf [(.i .i64), .b]), (.lf [(.i .i64), .b, (.i .i64)]), (.lf [(.i .i64), .b, (.i .i64)]), (.i .i64), (.i .i64), (.i .i64), (.i .i64), .b, (.i .i64)]), (.v (.lf [.s, (.i .i64), (.i .i64)]))], []⟩
def H27 : Hint := ⟨[], [(3, some ⟨[(34, false, [.i .i64])], [], [], [5, 6, 35, 36, 37, 38, 39, 40, 41, 42, 43, 44, 45, 46, 47, 48, 49, 50, 51, 52, 53, 54, 55, 56, 57, 58, 59, 60, 61, 62, 63, 64], [], []⟩)], [], 12, false⟩
def l27_1 : Vx.T := (.ite (.cm .lss (.iv 5) (.ln 5)) (.rq (.cm .geq (.iv 5) (.n 0)) (.lst [(.cl 5 (.iv 5) 0)] (.rq (.an (.cm .leq (.n 0) (.iv 5)) (.cm .leq (.iv 5) (.ln 5))) (.lst [(.cut (.v 5) (.n 0) (.iv 5))] (.fail 20))))) (.brk 2 [(.iv 5)] [] []))
def k27_2 : Vx.T := (.rq (.cm .eql (.iv 5) (.n 2)) (.ret [(.iv 0), (.iv 1), (.iv 2), (.iv 3), (.iv 4)] [(.bv 0)] [(.v 0), (.v 1), (.v 2), (.v 3), (.v 4)]))
def t27 : Vx.T := (.lst [(.els [[(.i (.ln 1))], [(.i (.ln 3))], [(.i (.ln 4))], [(.i (.ln 2))]])] (.lp [(.n 0)] [] [] 1 0 0 l27_1 k27_2))
def a27 : Tab := []
theorem x27 : sxFn Try.prog (Tab.sig a27) (inlN Try.prog (Tab.sig a27) (hintOf hs) 6) H27 Try.f27 (Try.f27.body.getD .skip) s27 = t27 := by kernel_rfl
def F27 : Vx.Fn := Vx.Fd t27 (Tab.fn a27)
theorem g27 : Vx.Good Try.prog True_ 27 s27 F27 := good_of_tree hm hI Tab.Good.nil H27 hs 6 Try.func27 rfl (by kernel_rfl) x27
/-! trammel/ctx.Type -/
def s14 : Sig := ⟨[(.agg [(.lf [(.sl [(.i .i64)]), (.sl [(.i .i64)])]), (.lf [(.i .i64)]), (.lf [(.i .i64), .b]), (.lf [(.i .i64), .b, (.i .i64)]), (.lf [(.i .i64), .b, (.i .i64)]), (.i .i64), (.i .i64), (.i .i64), (.i .i64), .b]), (.v (.i .i64))], [(.agg [(.lo 3 [(.i .i64)]), (.lo 3 [(.i .i64)])]), (.v .b)]⟩
def H14 : Hint := ⟨[], [], [], 12, false⟩
def t14 : Vx.T := (.call 30 [(.iv 4), (.ln 1)] [] [] 0 1 0 (.both (.rq (.oo (.nt (.bv 1)) (.an (.cm .geq (.iv 4) (.n 0)) (.cm .lss (.iv 4) (.ln 1)))) (.both (.ite (.bv 1) (.rq (.an (.cm .geq (.iv 4) (.n 0)) (.cm .lss (.iv 4) (.ln 1))) (.call 30 [(.ix 1 (.iv 4) 0), (.ln 0)] [] [] 0 1 0 (.ite (.nt (.bv 2)) (.ret [] [(.t false)] [.nil, .nil]) (.rq (.an (.cm .geq (.iv 4) (.n 0)) (.cm .lss (.iv 4) (.ln 1))) (.rq (.an (.cm .geq (.iv 4) (.n 0)) (.cm .lss (.iv 4) (.ln 1))) (.rq (.an (.cm .geq (.ix 1 (.iv 4) 0) (.n 0)) (.cm .lss (.ix 1 (.iv 4) 0) (.ln 0))) (.rq (.an (.cm .geq (.ix 1 (.iv 4) 0) (.n 0)) (.cm .lss (.ix 1 (.iv 4) 0) (.ln 0))) (.lst [(.cl 0 (.ix 1 (.iv 4) 0) 0), (.cl 0 (.ix 1 (.iv 4) 0) 1)] (.call 24 [] [] [(.v 5), (.v 6)] 0 0 2 (.ret [] [(.t true)] [(.v 7), (.v 8)])))))))))) (.ret [] [(.t false)] [.nil, .nil])) (.ite (.bv 1) (.rq (.an (.cm .geq (.iv 4) (.n 0)) (.cm .lss (.iv 4) (.ln 1))) (.call 30 [(.ix 1 (.iv 4) 0), (.ln 0)] [] [] 0 1 0 (.ite (.nt (.bv 2)) (.ret [] [(.t false)] [.nil, .nil]) (.rq (.an (.cm .geq (.iv 4) (.n 0)) (.cm .lss (.iv 4) (.ln 1))) (.rq (.an (.cm .geq (.iv 4) (.n 0)) (.cm .lss (.iv 4) (.ln 1))) (.rq (.an (.cm .geq (.ix 1 (.iv 4) 0) (.n 0)) (.cm .lss (.ix 1 (.iv 4) 0) (.ln 0))) (.rq (.an (.cm .geq (.ix 1 (.iv 4) 0) (.n 0)) (.cm .lss (.ix 1 (.iv 4) 0) (.ln 0))) (.lst [(.cl 0 (.ix 1 (.iv 4) 0) 0), (.cl 0 (.ix 1 (.iv 4) 0) 1)] (.call 24 [] [] [(.v 5), (.v 6)] 0 0 2 (.ret [] [(.t true)] [(.v 7), (.v 8)])))))))))) (.ret [] [(.t false)] [.nil, .nil])))) (.rq (.oo (.nt (.bv 1)) (.an (.cm .geq (.iv 4) (.n 0)) (.cm .lss (.iv 4) (.ln 1)))) (.ite (.bv 1) (.rq (.an (.cm .geq (.iv 4) (.n 0)) (.cm .lss (.iv 4) (.ln 1))) (.call 30 [(.ix 1 (.iv 4) 0), (.ln 0)] [] [] 0 1 0 (.ite (.nt (.bv 2)) (.ret [] [(.t false)] [.nil, .nil]) (.rq (.an (.cm .geq (.iv 4) (.n 0)) (.cm .lss (.iv 4) (.ln 1))) (.rq (.an (.cm .geq (.iv 4) (.n 0)) (.cm .lss (.iv 4) (.ln 1))) (.rq (.an (.cm .geq (.ix 1 (.iv 4) 0) (.n 0)) (.cm .lss (.ix 1 (.iv 4) 0) (.ln 0))) (.rq (.an (.cm .geq (.ix 1 (.iv 4) 0) (.n 0)) (.cm .lss (.ix 1 (.iv 4) 0) (.ln 0))) (.lst [(.cl 0 (.ix 1 (.iv 4) 0) 0), (.cl 0 (.ix 1 (.iv 4) 0) 1)] (.call 24 [] [] [(.v 5), (.v 6)] 0 0 2 (.ret [] [(.t true)] [(.v 7), (.v 8)])))))))))) (.ret [] [(.t false)] [.nil, .nil])))))
def a14 : Tab := [⟨30, s30, F30⟩, ⟨24, s24, F24⟩]
theorem x14 : sxFn Try.prog (Tab.sig a14) (inlN Try.prog (Tab.sig a14) (hintOf hs) 6) H14 Try.f14 (Try.f14.body.getD .skip) s14 = t14 := by kernel_rfl
theorem e14_30 : Tab.fn a14 30 = F30 := rfl
theorem e14_24 : Tab.fn a14 24 = F24 := rfl
def F14 : Vx.Fn := Vx.Fd t14 (Tab.fn a14)
theorem g14 : Vx.Good Try.prog True_ 14 s14 F14 := good_of_tree hm hI (gcons g30 (gcons g24 Tab.Good.nil)) H14 hs 6 Try.func14 rfl (by kernel_rfl) x14
/-! (*trammel/ctx.checker).segments -/
def s29 : Sig := ⟨[(.bx [(.lf [(.sl [(.i .i64)]), (.sl [(.i .i64)])]), (.lf [(.i .i64)]), (.lf [(.i .i64), .b]), (.lf [(.i .i64), .b, (.i .i64)]), (.lf [(.i .i64), .b, (.i .i64)]), (.i .i64), (.i .i64), (.i .i64), (.i .i64), .b, (.i .i64)]), (.agg [(.lf [(.sl [(.i .i64)]), (.sl [(.i .i64)])]), (.lf [.s, .s, (.i .i64), (.i .i64), (.i .i64), .b, (.i .i64), .b]), (.lf [(.i .i64), (.sl [(.i .i64)]), (.sl [(.i .i64), (.i .i64), (.i .i64), (.i .i64), (.sl [(.i .i64)])])]), (.lf [(.i .i64), .b, (.i .i64)]), (.lf [(.i .i64), .b, (.i .i64)]), (.lf [(.i .i64), .b, (.sl [(.i .i64), (.i .i64), (.i .i64), (.i .i64), (.sl [(.i .i64)])])]), (.lf [.s, (.i .i64), (.i .i64)]), (.lf [(.i .i64)]), (.lf [(.i .i64), (.sl [(.i .i64), (.i .i64), (.i .i64), (.i .i64), (.sl [(.i .i64)])]), (.sl [(.i .i64)])]), (.lf [(.i .i64)]), (.lf [(.i .i64), (.sl [(.i .i64), (.i .i64), (.i .i64), (.i .i64), (.sl [(.i .i64)])]), (.sl [(.i .u8)])]), (.lf [.s, (.sl [(.i .u8)])])])], []⟩
def H29 : Hint := ⟨[], [(3, some ⟨[(11, false, [.i .i64])], [], [], [5, 12, 13, 14, 15, 16, 17, 18, 19, 20, 21, 22, 23, 24, 25, 26, 27, 28, 29, 30, 31, 32, 33, 34, 35, 36, 37, 38, 39, 40, 41, 42, 43], [], []⟩), (11, some ⟨[(47, false, [.i .i64])], [], [], [7, 48, 49, 50, 51, 52, 53, 54, 55, 56, 57, 58, 59, 60, 61, 62, 63, 64, 65, 66, 67, 68, 69, 70, 71, 72], [], []⟩)], [], 12, false⟩
def l29_1 : Vx.T := (.ite (.cm .lss (.iv 7) (.ln 15)) (.rq (.cm .geq (.iv 7) (.n 0)) (.lst [(.cl 15 (.iv 7) 1), (.cl 15 (.iv 7) 2)] (.ite (.cm .eql (.ix 15 (.iv 7) 0) (.n 0)) (.lb (.an (.nt (.cm .gtr (.ln 4) (.n 0))) (.cm .eql (.iv 4) (.n 0))) (.ite (.bv 1) (.fail 27) (.call 20 [(.iv 0), (.iv 1), (.iv 2), (.iv 3), (.n 127)] [(.bv 0)] [(.v 0), (.v 1), (.v 2), (.v 3), (.v 4), (.v 17)] 0 1 0 (.ite (.an (.nt (.bv 2)) (.cm .eql (.iv 4) (.n 0))) (.fail 27) (.nxt [(.ar .add .i64 (.iv 7) (.n 1))] [] []))))) (.nxt [(.ar .add .i64 (.iv 7) (.n 1))] [] [])))) (.brk 4 [(.iv 7)] [] []))
def k29_2 : Vx.T := (.rq (.cm .eql (.iv 7) (.n 4)) (.ret [(.iv 0), (.iv 1), (.iv 2), (.iv 3), (.iv 4)] [(.bv 0)] [(.v 0), (.v 1), (.v 2), (.v 3), (.v 4)]))
def l29_3 : Vx.T := (.ite (.cm .lss (.iv 5) (.ln 13)) (.rq (.cm .geq (.iv 5) (.n 0)) (.lst [(.cl 13 (.iv 5) 1), (.cl 13 (.iv 5) 2)] (.ite (.cm .eql (.ix 13 (.iv 5) 0) (.n 0)) (.lb (.an (.nt (.cm .gtr (.ln 3) (.n 0))) (.cm .eql (.iv 4) (.n 0))) (.ite (.bv 1) (.fail 27) (.call 20 [(.iv 0), (.iv 1), (.iv 2), (.iv 3), (.n 127)] [(.bv 0)] [(.v 0), (.v 1), (.v 2), (.v 3), (.v 4), (.v 17)] 0 1 0 (.ite (.an (.nt (.bv 2)) (.cm .eql (.iv 4) (.n 0))) (.fail 27) (.fail 20))))) (.fail 20)))) (.brk 2 [(.iv 5)] [] []))
def k29_4 : Vx.T := (.rq (.cm .eql (.iv 5) (.n 2)) (.lp [(.n 0)] [] [] 1 0 0 l29_1 k29_2))
def t29 : Vx.T := (.lp [(.n 0)] [] [] 1 0 0 l29_3 k29_4)
def a29 : Tab := [⟨20, s20, F20⟩]
theorem x29 : sxFn Try.prog (Tab.sig a29) (inlN Try.prog (Tab.sig a29) (hintOf hs) 6) H29 Try.f29 (Try.f29.body.getD .skip) s29 = t29 := by kernel_rfl
theorem e29_20 : Tab.fn a29 20 = F20 := rfl
def F29 : Vx.Fn := Vx.Fd t29 (Tab.fn a29)
theorem g29 : Vx.Good Try.prog True_ 29 s29 F29 := good_of_tree hm hI (gcons g20 Tab.Good.nil) H29 hs 6 Try.func29 rfl (by kernel_rfl) x29
/-! trammel/ctx.Of -/
def s10 : Sig := ⟨[(.agg [(.lf [(.sl [(.i .i64)]), (.sl [(.i .i64)])]), (.lf [.s, .s, (.i .i64), (.i .i64), (.i .i64), .b, (.i .i64), .b]), (.lf [(.i .i64), (.sl [(.i .i64)]), (.sl [(.i .i64), (.i .i64), (.i .i64), (.i .i64), (.sl [(.i .i64)])])]), (.lf [(.i .i64), .b, (.i .i64)]), (.lf [(.i .i64), .b, (.i .i64)]), (.lf [(.i .i64), .b, (.sl [(.i .i64), (.i .i64), (.i .i64), (.i .i64), (.sl [(.i .i64)])])]), (.lf [.s, (.i .i64), (.i .i64)]), (.lf [(.i .i64)]), (.lf [(.i .i64), (.sl [(.i .i64), (.i .i64), (.i .i64), (.i .i64), (.sl [(.i .i64)])]), (.sl [(.i .i64)])]), (.lf [(.i .i64)]), (.lf [(.i .i64), (.sl [(.i .i64), (.i .i64), (.i .i64), (.i .i64), (.sl [(.i .i64)])]), (.sl [(.i .u8)])]), (.lf [.s, (.sl [(.i .u8)])])])], [(.agg [(.lf [(.sl [(.i .i64)]), (.sl [(.i .i64)])]), (.lf [(.i .i64)]), (.lf [(.i .i64), .b]), (.lf [(.i .i64), .b, (.i .i64)]), (.lf [(.i .i64), .b, (.i .i64)]), (.i .i64), (.i .i64), (.i .i64), (.i .i64), .b]), (.v (.i .i64))]⟩
def H10 : Hint := ⟨[], [(4, some ⟨[(18, false, [.i .i64])], [(2, 0, .lo 46 [(.sl [(.i .i64)]), (.sl [(.i .i64)])])], [], [6, 19, 20, 21, 22, 23, 24, 25, 26, 27, 28, 29, 30, 31, 32, 33, 34, 35], [], []⟩), (13, some ⟨[(72, false, [.i .i64])], [(2, 0, .lf [(.sl [(.i .i64)]), (.sl [(.i .i64)])]), (2, 1, .lf [(.i .i64)]), (2, 2, .lf [(.i .i64), .b]), (2, 3, .lf [(.i .i64), .b, (.i .i64)]), (2, 4, .lf [(.i .i64), .b, (.i .i64)]), (2, 10, .i .i64)], [], [8, 9, 10, 73, 74, 75, 76, 77, 78, 79, 80, 81, 82, 83, 84, 85, 86, 87, 88, 89, 90, 91, 92, 93, 94, 95, 96, 97, 98], [], []⟩), (21, some ⟨[(105, false, [.i .i64])], [(2, 0, .lf [(.sl [(.i .i64)]), (.sl [(.i .i64)])]), (2, 1, .lf [(.i .i64)]), (2, 2, .lf [(.i .i64), .b]), (2, 3, .lf [(.i .i64), .b, (.i .i64)]), (2, 4, .lf [(.i .i64), .b, (.i .i64)]), (2, 5, .i .i64), (2, 6, .i .i64), (2, 7, .i .i64), (2, 8, .i .i64), (2, 10, .i .i64)], [], [12, 106, 107, 108, 109, 110, 111, 112, 113, 114, 115, 116, 117, 118, 119, 120, 121, 122, 123, 124, 125, 126, 127, 128, 129, 130, 131, 132, 133, 134, 135, 136], [], []⟩)], [], 12, false⟩
def l10_1 : Vx.T := (.ite (.cm .lss (.iv 25) (.ln 2)) (.rq (.cm .geq (.iv 25) (.n 0)) (.lst [(.cl 2 (.iv 25) 1), (.cl 2 (.iv 25) 2)] (.call 30 [(.ix 2 (.iv 25) 0), (.ln 38)] [] [] 0 1 0 (.ite (.bv 4) (.rq (.an (.cm .geq (.ix 2 (.iv 25) 0) (.n 0)) (.cm .lss (.ix 2 (.iv 25) 0) (.ln 38))) (.rq (.an (.cm .geq (.ix 2 (.iv 25) 0) (.n 0)) (.cm .lss (.ix 2 (.iv 25) 0) (.ln 38))) (.rq (.an (.cm .geq (.ix 2 (.iv 25) 0) (.n 0)) (.cm .lss (.ix 2 (.iv 25) 0) (.ln 38))) (.lst [(.cl 38 (.ix 2 (.iv 25) 0) 0)] (.lb (.an (.nt (.cm .leq (.ar .add .i64 (.ln 45) (.ln 43)) (.n 64))) (.cm .eql (.iv 30) (.n 0))) (.ite (.bv 5) (.nxt [(.ar .add .i64 (.iv 25) (.n 1)), (.iv 26), (.iv 27), (.iv 28), (.iv 29), (.n 4)] [] [(.v 38), (.v 39), (.v 40), (.v 41), (.v 42)]) (.nxt [(.ar .add .i64 (.iv 25) (.n 1)), (.iv 26), (.iv 27), (.iv 28), (.iv 29), (.iv 30)] [] [(.v 38), (.v 39), (.v 40), (.v 41), (.v 42)]))))))) (.nxt [(.ar .add .i64 (.iv 25) (.n 1)), (.iv 26), (.iv 27), (.iv 28), (.iv 29), (.iv 30)] [] [(.v 38), (.v 39), (.v 40), (.v 41), (.v 42)]))))) (.brk 6 [(.iv 25), (.iv 26), (.iv 27), (.iv 28), (.iv 29), (.iv 30)] [] [(.v 38), (.v 39), (.v 40), (.v 41), (.v 42)]))
def k10_2 : Vx.T := (.rq (.cm .eql (.iv 25) (.n 6)) (.ite (.cm .neq (.iv 31) (.n 0)) (.ret [(.n 0), (.n 0), (.n 0), (.n 0), (.iv 31)] [(.t false)] [.nil, .nil, .nil, .nil, .nil]) (.ret [(.iv 27), (.iv 28), (.iv 29), (.iv 30), (.n 0)] [(.bv 3)] [(.v 38), (.v 39), (.v 40), (.v 41), (.v 42)])))
def l10_3 : Vx.T := (.ite (.cm .lss (.iv 17) (.ln 7)) (.rq (.cm .geq (.iv 17) (.n 0)) (.call 14 [(.iv 12), (.iv 13), (.iv 14), (.iv 15), (.ix 7 (.iv 17) 0)] [(.bv 2)] [(.v 28), (.v 29), (.v 30), (.v 31), (.v 32)] 0 1 2 (.ite (.an (.nt (.bv 3)) (.cm .eql (.iv 18) (.n 0))) (.nxt [(.ar .add .i64 (.iv 17) (.n 1)), (.n 7)] [] [(.v 28), (.v 29), (.v 30), (.v 31), (.v 32)]) (.lb (.an (.nt (.cm .eql (.ar .add .i64 (.ln 33) (.ln 34)) (.n 0))) (.cm .eql (.iv 18) (.n 0))) (.ite (.bv 4) (.nxt [(.ar .add .i64 (.iv 17) (.n 1)), (.n 6)] [] [(.v 28), (.v 29), (.v 30), (.v 31), (.v 32)]) (.nxt [(.ar .add .i64 (.iv 17) (.n 1)), (.iv 18)] [] [(.v 28), (.v 29), (.v 30), (.v 31), (.v 32)])))))) (.brk 4 [(.iv 17), (.iv 18)] [] [(.v 28), (.v 29), (.v 30), (.v 31), (.v 32)]))
def k10_4 : Vx.T := (.rq (.cm .eql (.iv 17) (.n 4)) (.call 29 [(.iv 12), (.iv 13), (.iv 14), (.iv 15), (.iv 19)] [(.bv 2)] [(.v 28), (.v 29), (.v 30), (.v 31), (.v 32), (.v 0), (.v 1), (.v 2), (.v 3), (.v 4), (.v 5), (.v 6), (.v 7), (.v 8), (.v 9), (.v 10), (.v 11)] 5 1 5 (.lp [(.n 0), (.iv 20), (.iv 21), (.iv 22), (.iv 23), (.iv 24)] [] [(.v 33), (.v 34), (.v 35), (.v 36), (.v 37)] 6 0 5 l10_1 k10_2)))
def l10_5 : Vx.T := (.ite (.cm .lss (.iv 0) (.ln 0)) (.rq (.cm .geq (.iv 0) (.n 0)) (.lst [(.cl 0 (.iv 0) 0), (.cl 0 (.iv 0) 1)] (.call 24 [] [] [(.v 13), (.v 14)] 0 0 2 (.lst [(.els [[(.l 15), (.l 16)]])] (.rq (.an (.cm .leq (.ln 12) (.n 718048409976)) (.cm .leq (.ln 17) (.n 718048409976))) (.lst [(.ap (.v 12) (.v 17))] (.nxt [(.ar .add .i64 (.iv 0) (.n 1))] [] [(.v 18)]))))))) (.brk 2 [(.iv 0)] [] [(.v 12)]))
def k10_6 : Vx.T := (.rq (.cm .eql (.iv 0) (.n 2)) (.call 25 [(.n 0), (.n 0), (.ln 8), (.ln 10), (.n 0)] [(.cm .gtr (.ln 9) (.n 0))] [(.v 12), .nil, .nil, .nil, .nil, (.v 1)] 5 1 5 (.call 26 [(.iv 2), (.iv 3), (.iv 4), (.iv 5), (.iv 6)] [(.bv 0)] [(.v 13), (.v 14), (.v 15), (.v 16), (.v 17), (.v 0), (.v 1), (.v 2), (.v 3), (.v 4), (.v 5), (.v 6), (.v 7), (.v 8), (.v 9), (.v 10), (.v 11)] 5 1 5 (.call 27 [(.iv 7), (.iv 8), (.iv 9), (.iv 10), (.iv 11)] [(.bv 1)] [(.v 18), (.v 19), (.v 20), (.v 21), (.v 22), (.v 6)] 5 1 5 (.lp [(.n 0), (.iv 16)] [] [(.v 23), (.v 24), (.v 25), (.v 26), (.v 27)] 2 0 5 l10_3 k10_4)))))
def t10 : Vx.T := (.lp [(.n 0)] [] [.nil] 1 0 1 l10_5 k10_6)
def a10 : Tab := [⟨24, s24, F24⟩, ⟨25, s25, F25⟩, ⟨26, s26, F26⟩, ⟨27, s27, F27⟩, ⟨14, s14, F14⟩, ⟨29, s29, F29⟩, ⟨30, s30, F30⟩]
theorem x10 : sxFn Try.prog (Tab.sig a10) (inlN Try.prog (Tab.sig a10) (hintOf hs) 6) H10 Try.f10 (Try.f10.body.getD .skip) s10 = t10 := by kernel_rfl
theorem e10_24 : Tab.fn a10 24 = F24 := rfl
theorem e10_25 : Tab.fn a10 25 = F25 := rfl
theorem e10_26 : Tab.fn a10 26 = F26 := rfl
theorem e10_27 : Tab.fn a10 27 = F27 := rfl
theorem e10_14 : Tab.fn a10 14 = F14 := rfl
theorem e10_29 : Tab.fn a10 29 = F29 := rfl
theorem e10_30 : Tab.fn a10 30 = F30 := rfl
def F10 : Vx.Fn := Vx.Fd t10 (Tab.fn a10)
theorem g10 : Vx.Good Try.prog True_ 10 s10 F10 := good_of_tree hm hI (gcons g24 (gcons g25 (gcons g26 (gcons g27 (gcons g14 (gcons g29 (gcons g30 Tab.Good.nil))))))) H10 hs 6 Try.func10 rfl (by kernel_rfl) x10
/-! trammel/trammellaw09.awake -/
def s8 : Sig := ⟨[], [(.v .b)]⟩
def H8 : Hint := ⟨[], [], [], 12, false⟩
def t8 : Vx.T := (.lst [(.els [[(.i (.n 127))]])] (.lst [(.els [[(.l 0), (.s [])]])] (.lst [(.els [[(.i (.n 0)), (.s []), (.s [])]])] (.call 10 [] [] [(.v 1), .nil, (.v 2), .nil, .nil, .nil, .nil, .nil, .nil, .nil, .nil, .nil] 5 1 5 (.lst [(.els [[(.i (.n 0)), (.s []), (.s [])]])] (.call 10 [] [] [.nil, .nil, (.v 8), .nil, .nil, .nil, .nil, .nil, .nil, .nil, .nil, .nil] 5 1 5 (.call 14 [(.iv 0), (.iv 1), (.iv 2), (.iv 3), (.n 0)] [(.bv 0)] [(.v 3), (.v 4), (.v 5), (.v 6), (.v 7)] 0 1 2 (.lb (.an (.cm .eql (.iv 4) (.n 0)) (.cm .eql (.iv 9) (.n 7))) (.lb (.an (.an (.bv 3) (.bv 2)) (.cm .eql (.ln 14) (.n 1))) (.ret [] [(.bv 4)] []))))))))))
def a8 : Tab := [⟨10, s10, F10⟩, ⟨14, s14, F14⟩]
theorem x8 : sxFn Try.prog (Tab.sig a8) (inlN Try.prog (Tab.sig a8) (hintOf hs) 6) H8 Try.f8 (Try.f8.body.getD .skip) s8 = t8 := by kernel_rfl
theorem e8_10 : Tab.fn a8 10 = F10 := rfl
theorem e8_14 : Tab.fn a8 14 = F14 := rfl
def F8 : Vx.Fn := Vx.Fd t8 (Tab.fn a8)
theorem g8 : Vx.Good Try.prog True_ 8 s8 F8 := good_of_tree hm hI (gcons g10 (gcons g14 Tab.Good.nil)) H8 hs 6 Try.func8 rfl (by kernel_rfl) x8
/-! trammel/trammelref09.Short -/
def s15 : Sig := ⟨[(.agg [(.lf [(.sl [(.i .i64)]), (.sl [(.i .i64)])]), (.lf [(.i .i64)]), (.lf [(.i .i64), .b]), (.lf [(.i .i64), .b, (.i .i64)]), (.lf [(.i .i64), .b, (.i .i64)]), (.i .i64), (.i .i64), (.i .i64), (.i .i64), .b])], [(.v .b)]⟩
def H15 : Hint := ⟨[], [(5, some ⟨[(2, false, [.b]), (3, false, [.i .i64])], [], [], [32, 33, 34, 35, 36, 37, 38, 39, 40, 41, 42, 43, 44, 45, 46, 47, 48, 49, 50, 51, 52, 53, 54, 55, 56], [], []⟩)], [], 12, false⟩
def l15_1 : Vx.T := (.ite (.cm .lss (.iv 4) (.ln 0)) (.rq (.cm .geq (.iv 4) (.n 0)) (.lst [(.cl 0 (.iv 4) 0)] (.rq (.oo (.cm .gtr (.ln 5) (.n 20)) (.an (.cm .geq (.iv 4) (.n 0)) (.cm .lss (.iv 4) (.ln 0)))) (.ite (.nt (.cm .gtr (.ln 5) (.n 20))) (.lst [(.cl 0 (.iv 4) 1)] (.ite (.cm .gtr (.ln 6) (.n 20)) (.rt (.ret [] [(.t false)] [])) (.nxt [(.ar .add .i64 (.iv 4) (.n 1))] [(.bv 3)] []))) (.rt (.ret [] [(.t false)] [])))))) (.brk 2 [(.iv 4)] [(.bv 3)] []))
def k15_2 : Vx.T := (.rq (.cm .eql (.iv 4) (.n 2)) (.ret [] [(.t true)] []))
def t15 : Vx.T := (.lb (.oo (.cm .gtr (.ln 0) (.n 70)) (.cm .gtr (.ln 1) (.n 140))) (.lb (.oo (.oo (.bv 1) (.cm .gtr (.ln 2) (.n 140))) (.cm .gtr (.ln 3) (.n 10))) (.ite (.oo (.bv 2) (.cm .gtr (.ln 4) (.n 10))) (.ret [] [(.t false)] []) (.lp [(.n 0)] [(.t false)] [] 1 1 0 l15_1 k15_2))))
def a15 : Tab := []
theorem x15 : sxFn Try.prog (Tab.sig a15) (inlN Try.prog (Tab.sig a15) (hintOf hs) 6) H15 Try.f15 (Try.f15.body.getD .skip) s15 = t15 := by kernel_rfl
def F15 : Vx.Fn := Vx.Fd t15 (Tab.fn a15)
theorem g15 : Vx.Good Try.prog True_ 15 s15 F15 := good_of_tree hm hI Tab.Good.nil H15 hs 6 Try.func15 rfl (by kernel_rfl) x15
/-! trammel/trammelref06.Short -/
def s16 : Sig := ⟨[(.v (.lf [(.i .i64), (.i .i64), (.i .i64), (.i .i64), (.sl [(.i .i64)])]))], [(.v .b)]⟩
def H16 : Hint := ⟨[], [(6, some ⟨[(2, false, [.b]), (3, false, [.i .i64]), (4, false, [.i .i64])], [], [], [8, 9, 10, 11, 12, 13, 14, 15, 16, 17, 18, 19, 20, 21, 22, 23, 24, 25, 26, 27, 28], [], []⟩)], [], 12, false⟩
def l16_1 : Vx.T := (.ite (.cm .lss (.iv 1) (.ln 0)) (.rq (.cm .geq (.iv 1) (.n 0)) (.lst [(.cl 0 (.iv 1) 4)] (.ite (.cm .gtr (.ln 1) (.n 100)) (.rt (.ret [] [(.t false)] [])) (.lst [(.cl 0 (.iv 1) 4)] (.nxt [(.ar .add .i64 (.iv 0) (.ln 2)), (.ar .add .i64 (.iv 1) (.n 1))] [(.bv 0)] []))))) (.brk 2 [(.iv 0), (.iv 1)] [(.bv 0)] []))
def k16_2 : Vx.T := (.rq (.cm .eql (.iv 0) (.n 2)) (.ret [] [(.cm .leq (.iv 1) (.n 2000))] []))
def t16 : Vx.T := (.ite (.cm .gtr (.ln 0) (.n 2100)) (.ret [] [(.t false)] []) (.lp [(.n 0), (.n 0)] [(.t false)] [] 2 1 0 l16_1 k16_2))
def a16 : Tab := []
theorem x16 : sxFn Try.prog (Tab.sig a16) (inlN Try.prog (Tab.sig a16) (hintOf hs) 6) H16 Try.f16 (Try.f16.body.getD .skip) s16 = t16 := by kernel_rfl
def F16 : Vx.Fn := Vx.Fd t16 (Tab.fn a16)
theorem g16 : Vx.Good Try.prog True_ 16 s16 F16 := good_of_tree hm hI Tab.Good.nil H16 hs 6 Try.func16 rfl (by kernel_rfl) x16
/-! trammel/ctx.Block -/
def s17 : Sig := ⟨[(.agg [(.lf [(.sl [(.i .i64)]), (.sl [(.i .i64)])]), (.lf [(.i .i64)]), (.lf [(.i .i64), .b]), (.lf [(.i .i64), .b, (.i .i64)]), (.lf [(.i .i64), .b, (.i .i64)]), (.i .i64), (.i .i64), (.i .i64), (.i .i64), .b]), (.v (.i .i64))], [(.agg [(.lo 3 [(.i .i64)]), (.lo 3 [(.i .i64)])]), (.v .b)]⟩
def H17 : Hint := ⟨[], [], [], 12, false⟩
def t17 : Vx.T := (.ite (.cm .eql (.iv 4) (.n (-64))) (.ret [] [(.t true)] [.nil, .nil]) (.ite (.cm .eql (.iv 4) (.n (-1))) (.lst [(.els [[(.i (.n 127))]])] (.ret [] [(.t true)] [.nil, (.v 5)])) (.ite (.cm .eql (.iv 4) (.n (-2))) (.lst [(.els [[(.i (.n 126))]])] (.ret [] [(.t true)] [.nil, (.v 5)])) (.call 30 [(.iv 4), (.ln 0)] [] [] 0 1 0 (.ite (.bv 1) (.rq (.an (.cm .geq (.iv 4) (.n 0)) (.cm .lss (.iv 4) (.ln 0))) (.rq (.an (.cm .geq (.iv 4) (.n 0)) (.cm .lss (.iv 4) (.ln 0))) (.lst [(.cl 0 (.iv 4) 0), (.cl 0 (.iv 4) 1)] (.call 24 [] [] [(.v 5), (.v 6)] 0 0 2 (.ret [] [(.t true)] [(.v 7), (.v 8)]))))) (.ret [] [(.t false)] [.nil, .nil]))))))
def a17 : Tab := [⟨30, s30, F30⟩, ⟨24, s24, F24⟩]
theorem x17 : sxFn Try.prog (Tab.sig a17) (inlN Try.prog (Tab.sig a17) (hintOf hs) 6) H17 Try.f17 (Try.f17.body.getD .skip) s17 = t17 := by kernel_rfl
theorem e17_30 : Tab.fn a17 30 = F30 := rfl
theorem e17_24 : Tab.fn a17 24 = F24 := rfl
def F17 : Vx.Fn := Vx.Fd t17 (Tab.fn a17)
theorem g17 : Vx.Good Try.prog True_ 17 s17 F17 := good_of_tree hm hI (gcons g30 (gcons g24 Tab.Good.nil)) H17 hs 6 Try.func17 rfl (by kernel_rfl) x17
/-! trammel/trammelref09.in -/
def s31 : Sig := ⟨[(.v (.i .i64)), (.v (.i .i64))], [(.v .b)]⟩
def H31 : Hint := ⟨[], [], [], 12, false⟩
def t31 : Vx.T := (.lb (.an (.cm .leq (.n 0) (.iv 0)) (.cm .lss (.iv 0) (.iv 1))) (.ret [] [(.bv 0)] []))
def a31 : Tab := []
theorem x31 : sxFn Try.prog (Tab.sig a31) (inlN Try.prog (Tab.sig a31) (hintOf hs) 6) H31 Try.f31 (Try.f31.body.getD .skip) s31 = t31 := by kernel_rfl
def F31 : Vx.Fn := Vx.Fd t31 (Tab.fn a31)
theorem g31 : Vx.Good Try.prog True_ 31 s31 F31 := good_of_tree hm hI Tab.Good.nil H31 hs 6 Try.func31 rfl (by kernel_rfl) x31
/-! trammel/trammelref09.Block -/
def s18 : Sig := ⟨[(.agg [(.lf [(.sl [(.i .i64)]), (.sl [(.i .i64)])]), (.lf [(.i .i64)]), (.lf [(.i .i64), .b]), (.lf [(.i .i64), .b, (.i .i64)]), (.lf [(.i .i64), .b, (.i .i64)]), (.i .i64), (.i .i64), (.i .i64), (.i .i64), .b]), (.v (.i .i64))], [(.agg [(.lf [(.i .i64)]), (.lf [(.i .i64)])]), (.v .b)]⟩
def H18 : Hint := ⟨[], [], [], 12, false⟩
def t18 : Vx.T := (.ite (.cm .eql (.iv 4) (.n (-64))) (.ret [] [(.t true)] [.nil, .nil]) (.lb (.oo (.cm .eql (.iv 4) (.n (-1))) (.cm .eql (.iv 4) (.n (-2)))) (.ite (.bv 1) (.lst [(.els [[(.i (.ar .add .i64 (.n 128) (.iv 4)))]])] (.ret [] [(.t true)] [.nil, (.v 5)])) (.call 31 [(.iv 4), (.ln 0)] [] [] 0 1 0 (.ite (.nt (.bv 2)) (.ret [] [(.t false)] [.nil, .nil]) (.rq (.an (.cm .geq (.iv 4) (.n 0)) (.cm .lss (.iv 4) (.ln 0))) (.rq (.an (.cm .geq (.iv 4) (.n 0)) (.cm .lss (.iv 4) (.ln 0))) (.lst [(.cl 0 (.iv 4) 0), (.cl 0 (.iv 4) 1)] (.ret [] [(.t true)] [(.v 5), (.v 6)])))))))))
def a18 : Tab := [⟨31, s31, F31⟩]
theorem x18 : sxFn Try.prog (Tab.sig a18) (inlN Try.prog (Tab.sig a18) (hintOf hs) 6) H18 Try.f18 (Try.f18.body.getD .skip) s18 = t18 := by kernel_rfl
theorem e18_31 : Tab.fn a18 31 = F31 := rfl
def F18 : Vx.Fn := Vx.Fd t18 (Tab.fn a18)
theorem g18 : Vx.Good Try.prog True_ 18 s18 F18 := good_of_tree hm hI (gcons g31 Tab.Good.nil) H18 hs 6 Try.func18 rfl (by kernel_rfl) x18
/-! trammel/trammelref05.SameInts -/
def s36 : Sig := ⟨[(.v (.lf [(.i .i64)])), (.v (.lf [(.i .i64)]))], [(.v .b)]⟩
def H36 : Hint := ⟨[], [(5, some ⟨[(4, false, [.b]), (5, false, [.i .i64])], [], [], [11, 12, 13, 14, 15, 16, 17, 18, 19, 20, 21, 22, 23, 24, 25], [], []⟩)], [], 12, false⟩
def l36_1 : Vx.T := (.ite (.cm .lss (.iv 0) (.ln 0)) (.rq (.cm .geq (.iv 0) (.n 0)) (.rq (.cm .lss (.iv 0) (.ln 1)) (.ite (.cm .neq (.ix 0 (.iv 0) 0) (.ix 1 (.iv 0) 0)) (.rt (.ret [] [(.t false)] [])) (.nxt [(.ar .add .i64 (.iv 0) (.n 1))] [(.bv 0)] [])))) (.brk 2 [(.iv 0)] [(.bv 0)] []))
def k36_2 : Vx.T := (.rq (.cm .eql (.iv 0) (.n 2)) (.ret [] [(.t true)] []))
def t36 : Vx.T := (.ite (.cm .neq (.ln 0) (.ln 1)) (.ret [] [(.t false)] []) (.lp [(.n 0)] [(.t false)] [] 1 1 0 l36_1 k36_2))
def a36 : Tab := []
theorem x36 : sxFn Try.prog (Tab.sig a36) (inlN Try.prog (Tab.sig a36) (hintOf hs) 6) H36 Try.f36 (Try.f36.body.getD .skip) s36 = t36 := by kernel_rfl
def F36 : Vx.Fn := Vx.Fd t36 (Tab.fn a36)
theorem g36 : Vx.Good Try.prog True_ 36 s36 F36 := good_of_tree hm hI Tab.Good.nil H36 hs 6 Try.func36 rfl (by kernel_rfl) x36
/-! trammel/trammelref05.Same -/
def s19 : Sig := ⟨[(.agg [(.lf [(.i .i64)]), (.lf [(.i .i64)])]), (.agg [(.lf [(.i .i64)]), (.lf [(.i .i64)])])], [(.v .b)]⟩
def H19 : Hint := ⟨[], [], [], 12, false⟩
def t19 : Vx.T := (.call 36 [] [] [(.v 0), (.v 2)] 0 1 0 (.ite (.bv 0) (.call 36 [] [] [(.v 1), (.v 3)] 0 1 0 (.ret [] [(.bv 1)] [])) (.ret [] [(.t false)] [])))
def a19 : Tab := [⟨36, s36, F36⟩]
theorem x19 : sxFn Try.prog (Tab.sig a19) (inlN Try.prog (Tab.sig a19) (hintOf hs) 6) H19 Try.f19 (Try.f19.body.getD .skip) s19 = t19 := by kernel_rfl
theorem e19_36 : Tab.fn a19 36 = F36 := rfl
def F19 : Vx.Fn := Vx.Fd t19 (Tab.fn a19)
theorem g19 : Vx.Good Try.prog True_ 19 s19 F19 := good_of_tree hm hI (gcons g36 Tab.Good.nil) H19 hs 6 Try.func19 rfl (by kernel_rfl) x19
/-! trammel/trammelref09.Constant -/
def s21 : Sig := ⟨[(.agg [(.lf [(.sl [(.i .i64)]), (.sl [(.i .i64)])]), (.lf [(.i .i64)]), (.lf [(.i .i64), .b]), (.lf [(.i .i64), .b, (.i .i64)]), (.lf [(.i .i64), .b, (.i .i64)]), (.i .i64), (.i .i64), (.i .i64), (.i .i64), .b]), (.v (.lf [(.i .i64), (.i .i64), (.i .i64), (.i .i64), (.sl [(.i .i64)])])), (.v (.i .i64))], [(.v .b)]⟩
def H21 : Hint := ⟨[], [], [], 12, false⟩
def t21 : Vx.T := (.rq (.oo (.cm .neq (.ln 5) (.n 2)) (.cm .lss (.n 1) (.ln 5))) (.ite (.nt (.cm .neq (.ln 5) (.n 2))) (.rq (.cm .lss (.n 1) (.ln 5)) (.ite (.cm .neq (.ix 5 (.n 1) 0) (.n 11)) (.ret [] [(.t false)] []) (.rq (.cm .lss (.n 0) (.ln 5)) (.ite (.cm .eql (.ix 5 (.n 0) 0) (.n 35)) (.call 31 [(.ix 5 (.n 0) 1), (.iv 1)] [] [] 0 1 0 (.ite (.bv 1) (.call 31 [(.ix 5 (.n 0) 1), (.ln 2)] [] [] 0 1 0 (.rq (.oo (.nt (.bv 2)) (.an (.cm .geq (.ix 5 (.n 0) 1) (.n 0)) (.cm .lss (.ix 5 (.n 0) 1) (.ln 2)))) (.ite (.bv 2) (.rq (.an (.cm .geq (.ix 5 (.n 0) 1) (.n 0)) (.cm .lss (.ix 5 (.n 0) 1) (.ln 2))) (.rq (.oo (.bx 2 (.ix 5 (.n 0) 1) 1) (.an (.cm .geq (.ix 5 (.n 0) 1) (.n 0)) (.cm .lss (.ix 5 (.n 0) 1) (.ln 2)))) (.ite (.nt (.bx 2 (.ix 5 (.n 0) 1) 1)) (.rq (.an (.cm .geq (.ix 5 (.n 0) 1) (.n 0)) (.cm .lss (.ix 5 (.n 0) 1) (.ln 2))) (.ret [] [(.cm .eql (.ix 2 (.ix 5 (.n 0) 1) 0) (.iv 4))] [])) (.ret [] [(.t false)] [])))) (.ret [] [(.t false)] [])))) (.ret [] [(.t false)] []))) (.lb (.an (.cm .eql (.ix 5 (.n 0) 0) (.n 65)) (.cm .eql (.iv 4) (.n 127))) (.rq (.oo (.bv 1) (.cm .lss (.n 0) (.ln 5))) (.ite (.nt (.bv 1)) (.lb (.an (.cm .eql (.ix 5 (.n 0) 0) (.n 66)) (.cm .eql (.iv 4) (.n 126))) (.ret [] [(.bv 2)] [])) (.ret [] [(.t true)] [])))))))) (.ret [] [(.t false)] [])))
def a21 : Tab := [⟨31, s31, F31⟩]
theorem x21 : sxFn Try.prog (Tab.sig a21) (inlN Try.prog (Tab.sig a21) (hintOf hs) 6) H21 Try.f21 (Try.f21.body.getD .skip) s21 = t21 := by kernel_rfl
theorem e21_31 : Tab.fn a21 31 = F31 := rfl
def F21 : Vx.Fn := Vx.Fd t21 (Tab.fn a21)
theorem g21 : Vx.Good Try.prog True_ 21 s21 F21 := good_of_tree hm hI (gcons g31 Tab.Good.nil) H21 hs 6 Try.func21 rfl (by kernel_rfl) x21
/-! trammel/trammellaw09.CtxAsked -/
def s7 : Sig := ⟨[(.agg [(.lf [(.sl [(.i .i64)]), (.sl [(.i .i64)])]), (.lf [(.i .i64)]), (.lf [(.i .i64), .b]), (.lf [(.i .i64), .b, (.i .i64)]), (.lf [(.i .i64), .b, (.i .i64)]), (.i .i64), (.i .i64), (.i .i64), (.i .i64), .b]), (.v (.i .i64)), (.v (.i .i64)), (.v (.lf [(.i .i64), (.i .i64), (.i .i64), (.i .i64), (.sl [(.i .i64)])])), (.v (.i .i64))], [(.v .b)]⟩
def H7 : Hint := ⟨[], [], [], 12, false⟩
def b7_1 : Vx.T := (.ite (.bv 9) (.rq (.an (.cm .geq (.iv 4) (.n 0)) (.cm .lss (.iv 4) (.ln 1))) (.rq (.an (.cm .geq (.ix 1 (.iv 4) 0) (.n 0)) (.cm .lss (.ix 1 (.iv 4) 0) (.ln 0))) (.rq (.an (.cm .geq (.ix 1 (.iv 4) 0) (.n 0)) (.cm .lss (.ix 1 (.iv 4) 0) (.ln 0))) (.lst [(.cl 0 (.ix 1 (.iv 4) 0) 0), (.cl 0 (.ix 1 (.iv 4) 0) 1)] (.call 19 [] [] [(.v 10), (.v 11), (.v 12), (.v 13)] 0 1 0 (.ret [] [(.bv 11)] [])))))) (.ret [] [(.t false)] []))
def b7_2 : Vx.T := (.both b7_1 b7_1)
def b7_3 : Vx.T := (.both (.rq (.oo (.nt (.bv 9)) (.an (.cm .geq (.iv 4) (.n 0)) (.cm .lss (.iv 4) (.ln 1)))) b7_1) (.rq (.oo (.nt (.bv 9)) (.an (.cm .geq (.iv 4) (.n 0)) (.cm .lss (.iv 4) (.ln 1)))) b7_2))
def b7_4 : Vx.T := (.ite (.bv 6) (.call 20 [(.iv 0), (.iv 1), (.iv 2), (.iv 3), (.iv 6)] [(.bv 0)] [(.v 0), (.v 1), (.v 2), (.v 3), (.v 4), (.v 5)] 0 1 0 (.call 21 [(.iv 0), (.iv 1), (.iv 2), (.iv 3), (.iv 6)] [(.bv 0)] [(.v 0), (.v 1), (.v 2), (.v 3), (.v 4), (.v 5)] 0 1 0 (.ite (.nt (.be (.bv 7) (.bv 8))) (.ret [] [(.t false)] []) (.call 14 [(.iv 0), (.iv 1), (.iv 2), (.iv 3), (.iv 4)] [(.bv 0)] [(.v 0), (.v 1), (.v 2), (.v 3), (.v 4)] 0 1 2 (.lb (.oo (.cm .lss (.iv 4) (.n 0)) (.cm .geq (.iv 4) (.ln 1))) (.rq (.oo (.bv 10) (.an (.cm .geq (.iv 4) (.n 0)) (.cm .lss (.iv 4) (.ln 1)))) (.ite (.nt (.bv 10)) (.rq (.an (.cm .geq (.iv 4) (.n 0)) (.cm .lss (.iv 4) (.ln 1))) (.rq (.oo (.cm .lss (.ix 1 (.iv 4) 0) (.n 0)) (.an (.cm .geq (.iv 4) (.n 0)) (.cm .lss (.iv 4) (.ln 1)))) (.ite (.nt (.cm .lss (.ix 1 (.iv 4) 0) (.n 0))) (.rq (.an (.cm .geq (.iv 4) (.n 0)) (.cm .lss (.iv 4) (.ln 1))) (.ite (.cm .geq (.ix 1 (.iv 4) 0) (.ln 0)) (.ite (.nt (.bv 9)) (.call 19 [] [] [(.v 10), (.v 11), .nil, .nil] 0 1 0 (.ret [] [(.bv 11)] [])) (.ret [] [(.t false)] [])) (.both b7_3 (.both b7_3 (.rq (.oo (.nt (.bv 9)) (.an (.cm .geq (.iv 4) (.n 0)) (.cm .lss (.iv 4) (.ln 1)))) (.both b7_2 (.both b7_2 b7_1))))))) (.ite (.nt (.bv 9)) (.call 19 [] [] [(.v 10), (.v 11), .nil, .nil] 0 1 0 (.ret [] [(.bv 11)] [])) (.ret [] [(.t false)] []))))) (.ite (.nt (.bv 9)) (.call 19 [] [] [(.v 10), (.v 11), .nil, .nil] 0 1 0 (.ret [] [(.bv 11)] [])) (.ret [] [(.t false)] []))))))))) (.ret [] [(.t false)] []))
def b7_5 : Vx.T := (.ite (.be (.bv 4) (.bv 5)) (.call 19 [] [] [(.v 6), (.v 7), (.v 8), (.v 9)] 0 1 0 (.both (.both b7_4 b7_4) b7_4)) (.ret [] [(.t false)] []))
def t7 : Vx.T := (.call 8 [] [] [] 0 1 0 (.ite (.nt (.bv 1)) (.ret [] [(.t false)] []) (.call 15 [(.iv 0), (.iv 1), (.iv 2), (.iv 3)] [(.bv 0)] [(.v 0), (.v 1), (.v 2), (.v 3), (.v 4)] 0 1 0 (.ite (.bv 2) (.call 16 [] [] [(.v 5)] 0 1 0 (.ite (.nt (.bv 3)) (.ret [] [(.t true)] []) (.call 17 [(.iv 0), (.iv 1), (.iv 2), (.iv 3), (.iv 5)] [(.bv 0)] [(.v 0), (.v 1), (.v 2), (.v 3), (.v 4)] 0 1 2 (.call 18 [(.iv 0), (.iv 1), (.iv 2), (.iv 3), (.iv 5)] [(.bv 0)] [(.v 0), (.v 1), (.v 2), (.v 3), (.v 4)] 0 1 2 (.both b7_5 b7_5))))) (.ret [] [(.t true)] [])))))
def a7 : Tab := [⟨8, s8, F8⟩, ⟨15, s15, F15⟩, ⟨16, s16, F16⟩, ⟨17, s17, F17⟩, ⟨18, s18, F18⟩, ⟨19, s19, F19⟩, ⟨20, s20, F20⟩, ⟨21, s21, F21⟩, ⟨14, s14, F14⟩]
theorem x7 : sxFn Try.prog (Tab.sig a7) (inlN Try.prog (Tab.sig a7) (hintOf hs) 6) H7 Try.f7 (Try.f7.body.getD .skip) s7 = t7 := by kernel_rfl
theorem e7_8 : Tab.fn a7 8 = F8 := rfl
theorem e7_15 : Tab.fn a7 15 = F15 := rfl
theorem e7_16 : Tab.fn a7 16 = F16 := rfl
theorem e7_17 : Tab.fn a7 17 = F17 := rfl
theorem e7_18 : Tab.fn a7 18 = F18 := rfl
theorem e7_19 : Tab.fn a7 19 = F19 := rfl
theorem e7_20 : Tab.fn a7 20 = F20 := rfl
theorem e7_21 : Tab.fn a7 21 = F21 := rfl
theorem e7_14 : Tab.fn a7 14 = F14 := rfl
def F7 : Vx.Fn := Vx.Fd t7 (Tab.fn a7)
theorem g7 : Vx.Good Try.prog True_ 7 s7 F7 := good_of_tree hm hI (gcons g8 (gcons g15 (gcons g16 (gcons g17 (gcons g18 (gcons g19 (gcons g20 (gcons g21 (gcons g14 Tab.Good.nil))))))))) H7 hs 6 Try.func7 rfl (by kernel_rfl) x7
end Go.Proofs.Ytkpbcfkmkgddhaa.XCtxAsked

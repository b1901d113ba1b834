/-
  The trees of tests of the functions that InstrBack reaches, that each is its code's, and what each function answers.
-/
import Derived.Test.YtmfjapphmmlppaaVx
import Derived.Test.YtmfjapphmmlppaaProg
namespace Go.Proofs.Ytmfjapphmmlppaa.XInstrBack
open Go.Proofs.Ytmfjapphmmlppaa.Vx
set_option maxRecDepth 100000
def True_ : World → Prop := fun _ => True
theorem hI : ∀ (M : Nat → Prop) (w w' : World), True_ w → Vx.Bel M w w' → True_ w' := fun _ _ _ _ _ => trivial
theorem hm : Try.prog.follows .mixedOrders = true := by kernel_rfl
theorem gcons {f : Nat} {s : Sig} {F : Vx.Fn} {r : Tab} (h : Vx.Good Try.prog True_ f s F) (t : Tab.Good Try.prog True_ r) : Tab.Good Try.prog True_ (⟨f, s, F⟩ :: r) := Tab.Good.cons (e := ⟨f, s, F⟩) h t
def hs : List (Nat × Hint) := [(59, ⟨[], [], [], 12, true⟩), (60, ⟨[], [], [], 12, true⟩), (71, ⟨[], [(3, some ⟨[(4, false, [.i .i64]), (8, false, [.i .i64])], [], [], [5, 9, 10, 11, 12, 13, 14, 15, 16, 17, 18], [], []⟩)], [], 12, true⟩)]
/-! (*trammel/instr.reader).fail -/
def s26 : Sig := ⟨[(.bx [(.lf [(.i .u8)]), (.i .i64), (.i .i64)]), (.v (.i .i64))], []⟩
def H26 : Hint := ⟨[], [], [], 12, false⟩
def t26 : Vx.T := (.ite (.cm .eql (.iv 1) (.n 0)) (.ret [(.iv 0), (.iv 2)] [] [(.v 0)]) (.ret [(.iv 0), (.iv 1)] [] [(.v 0)]))
def a26 : Tab := []
theorem x26 : sxFn Try.prog (Tab.sig a26) (inlN Try.prog (Tab.sig a26) (hintOf hs) 6) H26 Try.f26 (Try.f26.body.getD .skip) s26 = t26 := by kernel_rfl
def F26 : Vx.Fn := Vx.Fd t26 (Tab.fn a26)
theorem g26 : Vx.Good Try.prog True_ 26 s26 F26 := good_of_tree hm hI Tab.Good.nil H26 hs 6 Try.func26 rfl (by kernel_rfl) x26
/-! (*trammel/instr.reader).byte -/
def s61 : Sig := ⟨[(.bx [(.lf [(.i .u8)]), (.i .i64), (.i .i64)])], [(.v (.i .i64))]⟩
def H61 : Hint := ⟨[], [], [], 12, false⟩
def t61 : Vx.T := (.ite (.cm .neq (.iv 1) (.n 0)) (.ret [(.n 0), (.iv 0), (.iv 1)] [] [(.v 0)]) (.ite (.cm .geq (.iv 0) (.ln 0)) (.call 26 [(.iv 0), (.iv 1), (.n 1)] [] [(.v 0)] 2 0 1 (.ret [(.n 0), (.iv 2), (.iv 3)] [] [(.v 1)])) (.rq (.an (.cm .geq (.ar .sub .i64 (.ar .add .i64 (.iv 0) (.n 1)) (.n 1)) (.n 0)) (.cm .lss (.ar .sub .i64 (.ar .add .i64 (.iv 0) (.n 1)) (.n 1)) (.ln 0))) (.rq (.an (.cm .geq (.ar .sub .i64 (.ar .add .i64 (.iv 0) (.n 1)) (.n 1)) (.n 0)) (.cm .lss (.ar .sub .i64 (.ar .add .i64 (.iv 0) (.n 1)) (.n 1)) (.ln 0))) (.li (.cv .i64 (.ix 0 (.ar .sub .i64 (.ar .add .i64 (.iv 0) (.n 1)) (.n 1)) 0)) (.ret [(.iv 2), (.ar .add .i64 (.iv 0) (.n 1)), (.iv 1)] [] [(.v 0)]))))))
def a61 : Tab := [⟨26, s26, F26⟩]
theorem x61 : sxFn Try.prog (Tab.sig a61) (inlN Try.prog (Tab.sig a61) (hintOf hs) 6) H61 Try.f61 (Try.f61.body.getD .skip) s61 = t61 := by kernel_rfl
theorem e61_26 : Tab.fn a61 26 = F26 := by kernel_rfl
def F61 : Vx.Fn := Vx.Fd t61 (Tab.fn a61)
theorem g61 : Vx.Good Try.prog True_ 61 s61 F61 := good_of_tree hm hI (gcons g26 Tab.Good.nil) H61 hs 6 Try.func61 rfl (by kernel_rfl) x61
/-! trammel/leb.most -/
def s85 : Sig := ⟨[(.v (.i .i64))], [(.v (.i .i64))]⟩
def H85 : Hint := ⟨[], [], [], 12, false⟩
def t85 : Vx.T := (.ret [(.ar .quo .i64 (.ar .add .i64 (.iv 0) (.n 6)) (.n 7))] [] [])
def a85 : Tab := []
theorem x85 : sxFn Try.prog (Tab.sig a85) (inlN Try.prog (Tab.sig a85) (hintOf hs) 6) H85 Try.f85 (Try.f85.body.getD .skip) s85 = t85 := by kernel_rfl
def F85 : Vx.Fn := Vx.Fd t85 (Tab.fn a85)
theorem g85 : Vx.Good Try.prog True_ 85 s85 F85 := good_of_tree hm hI Tab.Good.nil H85 hs 6 Try.func85 rfl (by kernel_rfl) x85
/-! trammel/leb.raw -/
def s73 : Sig := ⟨[(.v (.lf [(.i .u8)])), (.v (.i .i64))], [(.v (.i .u64)), (.v (.i .u8)), (.v (.i .i64)), (.v (.i .i64))]⟩
def H73 : Hint := ⟨[], [(6, some ⟨[(4, false, [.i .u64]), (5, false, [.i .u8]), (6, false, [.i .i64]), (7, false, [.i .i64]), (8, false, [.i .u64]), (19, false, [.i .i64])], [], [], [9, 10, 20, 21, 22, 23, 24, 25, 26, 27, 28, 29, 30, 31, 32, 33, 34, 35, 36, 37, 38, 39, 40, 41, 42, 43, 44], [], []⟩)], [], 12, false⟩
def l73_1 : Vx.T := (.ite (.cm .lss (.iv 6) (.ln 0)) (.rq (.cm .geq (.iv 6) (.n 0)) (.rq (.cm .geq (.cv .u64 (.ar .mul .i64 (.n 7) (.iv 6))) (.n 0)) (.li (.ar .shl .u64 (.cv .u64 (.ar .and .u8 (.ix 0 (.iv 6) 0) (.n 127))) (.cv .u64 (.ar .mul .i64 (.n 7) (.iv 6)))) (.ite (.cm .lss (.ix 0 (.iv 6) 0) (.n 128)) (.rt (.ret [(.ar .or .u64 (.iv 5) (.iv 7)), (.ix 0 (.iv 6) 0), (.ar .add .i64 (.iv 6) (.n 1)), (.n 0)] [] [])) (.call 85 [(.iv 0)] [] [] 1 0 0 (.ite (.cm .eql (.ar .add .i64 (.iv 6) (.n 1)) (.iv 8)) (.rt (.ret [(.n 0), (.n 0), (.n 0), (.n 2)] [] [])) (.nxt [(.iv 1), (.iv 2), (.iv 3), (.iv 4), (.ar .or .u64 (.iv 5) (.iv 7)), (.ar .add .i64 (.iv 6) (.n 1))] [] []))))))) (.brk 2 [(.iv 1), (.iv 2), (.iv 3), (.iv 4), (.iv 5), (.iv 6)] [] []))
def k73_2 : Vx.T := (.rq (.cm .eql (.iv 1) (.n 2)) (.ret [(.n 0), (.n 0), (.n 0), (.n 1)] [] []))
def t73 : Vx.T := (.lb (.oo (.cm .lss (.iv 0) (.n 1)) (.cm .gtr (.iv 0) (.n 64))) (.ite (.bv 0) (.ret [(.n 0), (.n 0), (.n 0), (.n 5)] [] []) (.lp [(.n 0), (.n 0), (.n 0), (.n 0), (.n 0), (.n 0)] [] [] 6 0 0 l73_1 k73_2)))
def a73 : Tab := [⟨85, s85, F85⟩]
theorem x73 : sxFn Try.prog (Tab.sig a73) (inlN Try.prog (Tab.sig a73) (hintOf hs) 6) H73 Try.f73 (Try.f73.body.getD .skip) s73 = t73 := by kernel_rfl
theorem e73_85 : Tab.fn a73 85 = F85 := by kernel_rfl
def F73 : Vx.Fn := Vx.Fd t73 (Tab.fn a73)
theorem g73 : Vx.Good Try.prog True_ 73 s73 F73 := good_of_tree hm hI (gcons g85 Tab.Good.nil) H73 hs 6 Try.func73 rfl (by kernel_rfl) x73
/-! trammel/leb.U -/
def s63 : Sig := ⟨[(.v (.lf [(.i .u8)])), (.v (.i .i64))], [(.v (.i .u64)), (.v (.i .i64)), (.v (.i .i64))]⟩
def H63 : Hint := ⟨[], [], [], 12, false⟩
def t63 : Vx.T := (.call 73 [(.iv 0)] [] [(.v 0)] 4 0 0 (.ite (.cm .neq (.iv 4) (.n 0)) (.ret [(.n 0), (.n 0), (.iv 4)] [] []) (.li (.ar .sub .i64 (.iv 0) (.ar .mul .i64 (.n 7) (.ar .sub .i64 (.iv 3) (.n 1)))) (.rq (.oo (.nt (.cm .lss (.iv 5) (.n 7))) (.cm .geq (.cv .u64 (.iv 5)) (.n 0))) (.lb (.an (.cm .lss (.iv 5) (.n 7)) (.cm .neq (.ar .shr .u8 (.iv 2) (.cv .u64 (.iv 5))) (.n 0))) (.ite (.bv 0) (.ret [(.n 0), (.n 0), (.n 2)] [] []) (.ret [(.iv 1), (.iv 3), (.n 0)] [] [])))))))
def a63 : Tab := [⟨73, s73, F73⟩]
theorem x63 : sxFn Try.prog (Tab.sig a63) (inlN Try.prog (Tab.sig a63) (hintOf hs) 6) H63 Try.f63 (Try.f63.body.getD .skip) s63 = t63 := by kernel_rfl
theorem e63_73 : Tab.fn a63 73 = F73 := by kernel_rfl
def F63 : Vx.Fn := Vx.Fd t63 (Tab.fn a63)
theorem g63 : Vx.Good Try.prog True_ 63 s63 F63 := good_of_tree hm hI (gcons g73 Tab.Good.nil) H63 hs 6 Try.func63 rfl (by kernel_rfl) x63
/-! (*trammel/instr.reader).u -/
def s44 : Sig := ⟨[(.bx [(.lf [(.i .u8)]), (.i .i64), (.i .i64)])], [(.v (.i .i64))]⟩
def H44 : Hint := ⟨[], [], [], 12, false⟩
def t44 : Vx.T := (.ite (.cm .neq (.iv 1) (.n 0)) (.ret [(.n 0), (.iv 0), (.iv 1)] [] [(.v 0)]) (.rq (.an (.cm .leq (.n 0) (.iv 0)) (.an (.cm .leq (.iv 0) (.ln 0)) (.cm .leq (.ln 0) (.ln 0)))) (.lst [(.cut (.v 0) (.iv 0) (.ln 0))] (.call 63 [(.n 32)] [] [(.v 1)] 3 0 0 (.call 26 [(.iv 0), (.iv 1), (.iv 4)] [] [(.v 0)] 2 0 1 (.ret [(.cv .i64 (.iv 2)), (.ar .add .i64 (.iv 5) (.iv 3)), (.iv 6)] [] [(.v 2)]))))))
def a44 : Tab := [⟨63, s63, F63⟩, ⟨26, s26, F26⟩]
theorem x44 : sxFn Try.prog (Tab.sig a44) (inlN Try.prog (Tab.sig a44) (hintOf hs) 6) H44 Try.f44 (Try.f44.body.getD .skip) s44 = t44 := by kernel_rfl
theorem e44_63 : Tab.fn a44 63 = F63 := by kernel_rfl
theorem e44_26 : Tab.fn a44 26 = F26 := by kernel_rfl
def F44 : Vx.Fn := Vx.Fd t44 (Tab.fn a44)
theorem g44 : Vx.Good Try.prog True_ 44 s44 F44 := good_of_tree hm hI (gcons g63 (gcons g26 Tab.Good.nil)) H44 hs 6 Try.func44 rfl (by kernel_rfl) x44
/-! trammel/pack.access -/
def s70 : Sig := ⟨[(.v (.i .i64))], [(.v (.i .i64)), (.v (.i .i64)), (.v .b), (.v .b), (.v .b)]⟩
def H70 : Hint := ⟨[], [], [], 12, false⟩
def b70_1 : Vx.T := (.ite (.cm .eql (.iv 0) (.n 54)) (.ret [(.n 127), (.n 4)] [(.t false), (.t true), (.t true)] []) (.ite (.cm .eql (.iv 0) (.n 55)) (.ret [(.n 126), (.n 8)] [(.t false), (.t true), (.t true)] []) (.ite (.cm .eql (.iv 0) (.n 58)) (.ret [(.n 127), (.n 1)] [(.t false), (.t true), (.t true)] []) (.ite (.cm .eql (.iv 0) (.n 59)) (.ret [(.n 127), (.n 2)] [(.t false), (.t true), (.t true)] []) (.ite (.cm .eql (.iv 0) (.n 60)) (.ret [(.n 126), (.n 1)] [(.t false), (.t true), (.t true)] []) (.ite (.cm .eql (.iv 0) (.n 61)) (.ret [(.n 126), (.n 2)] [(.t false), (.t true), (.t true)] []) (.ite (.cm .eql (.iv 0) (.n 62)) (.ret [(.n 126), (.n 4)] [(.t false), (.t true), (.t true)] []) (.ret [(.n 0), (.n 0)] [(.t false), (.t false), (.t false)] []))))))))
def b70_2 : Vx.T := (.ite (.cm .eql (.iv 0) (.n 52)) (.ite (.cm .eql (.iv 0) (.n 52)) (.ret [(.n 126), (.n 4)] [(.cm .eql (.iv 0) (.n 52)), (.t false), (.t true)] []) b70_1) (.ite (.cm .eql (.iv 0) (.n 53)) (.ret [(.n 126), (.n 4)] [(.cm .eql (.iv 0) (.n 52)), (.t false), (.t true)] []) b70_1))
def b70_3 : Vx.T := (.ite (.cm .eql (.iv 0) (.n 50)) (.ite (.cm .eql (.iv 0) (.n 50)) (.ret [(.n 126), (.n 2)] [(.cm .eql (.iv 0) (.n 50)), (.t false), (.t true)] []) b70_2) (.ite (.cm .eql (.iv 0) (.n 51)) (.ret [(.n 126), (.n 2)] [(.cm .eql (.iv 0) (.n 50)), (.t false), (.t true)] []) b70_2))
def b70_4 : Vx.T := (.ite (.cm .eql (.iv 0) (.n 48)) (.ite (.cm .eql (.iv 0) (.n 48)) (.ret [(.n 126), (.n 1)] [(.cm .eql (.iv 0) (.n 48)), (.t false), (.t true)] []) b70_3) (.ite (.cm .eql (.iv 0) (.n 49)) (.ret [(.n 126), (.n 1)] [(.cm .eql (.iv 0) (.n 48)), (.t false), (.t true)] []) b70_3))
def b70_5 : Vx.T := (.ite (.cm .eql (.iv 0) (.n 46)) (.ite (.cm .eql (.iv 0) (.n 46)) (.ret [(.n 127), (.n 2)] [(.cm .eql (.iv 0) (.n 46)), (.t false), (.t true)] []) b70_4) (.ite (.cm .eql (.iv 0) (.n 47)) (.ret [(.n 127), (.n 2)] [(.cm .eql (.iv 0) (.n 46)), (.t false), (.t true)] []) b70_4))
def t70 : Vx.T := (.ite (.cm .eql (.iv 0) (.n 40)) (.ret [(.n 127), (.n 4)] [(.t false), (.t false), (.t true)] []) (.ite (.cm .eql (.iv 0) (.n 41)) (.ret [(.n 126), (.n 8)] [(.t false), (.t false), (.t true)] []) (.ite (.cm .eql (.iv 0) (.n 44)) (.ite (.cm .eql (.iv 0) (.n 44)) (.ret [(.n 127), (.n 1)] [(.cm .eql (.iv 0) (.n 44)), (.t false), (.t true)] []) b70_5) (.ite (.cm .eql (.iv 0) (.n 45)) (.ret [(.n 127), (.n 1)] [(.cm .eql (.iv 0) (.n 44)), (.t false), (.t true)] []) b70_5))))
def a70 : Tab := []
theorem x70 : sxFn Try.prog (Tab.sig a70) (inlN Try.prog (Tab.sig a70) (hintOf hs) 6) H70 Try.f70 (Try.f70.body.getD .skip) s70 = t70 := by kernel_rfl
def F70 : Vx.Fn := Vx.Fd t70 (Tab.fn a70)
theorem g70 : Vx.Good Try.prog True_ 70 s70 F70 := good_of_tree hm hI Tab.Good.nil H70 hs 6 Try.func70 rfl (by kernel_rfl) x70
/-! trammel/pack.Access -/
def s55 : Sig := ⟨[(.v (.i .i64))], [(.v (.i .i64)), (.v (.i .i64)), (.v .b), (.v .b)]⟩
def H55 : Hint := ⟨[], [], [], 12, false⟩
def t55 : Vx.T := (.call 70 [(.iv 0)] [] [] 2 3 0 (.ret [(.iv 1), (.iv 2)] [(.bv 1), (.bv 2)] []))
def a55 : Tab := [⟨70, s70, F70⟩]
theorem x55 : sxFn Try.prog (Tab.sig a55) (inlN Try.prog (Tab.sig a55) (hintOf hs) 6) H55 Try.f55 (Try.f55.body.getD .skip) s55 = t55 := by kernel_rfl
theorem e55_70 : Tab.fn a55 70 = F70 := by kernel_rfl
def F55 : Vx.Fn := Vx.Fd t55 (Tab.fn a55)
theorem g55 : Vx.Good Try.prog True_ 55 s55 F55 := good_of_tree hm hI (gcons g70 Tab.Good.nil) H55 hs 6 Try.func55 rfl (by kernel_rfl) x55
/-! trammel/num.Types -/
def s56 : Sig := ⟨[(.v (.i .i64))], [(.v (.lo 3 [(.i .i64)])), (.v (.i .i64)), (.v .b)]⟩
def H56 : Hint := ⟨[], [], [], 12, false⟩
def b56_1 : Vx.T := (.ite (.bv 2) (.lst [(.els [[(.i (.n 127))], [(.i (.n 127))]])] (.ret [(.n 127)] [(.t true)] [(.v 0)])) (.lb (.an (.cm .geq (.iv 0) (.n 81)) (.cm .leq (.iv 0) (.n 90))) (.ite (.bv 3) (.lst [(.els [[(.i (.n 126))], [(.i (.n 126))]])] (.ret [(.n 127)] [(.t true)] [(.v 0)])) (.lb (.an (.cm .geq (.iv 0) (.n 124)) (.cm .leq (.iv 0) (.n 138))) (.ite (.bv 4) (.lst [(.els [[(.i (.n 126))], [(.i (.n 126))]])] (.ret [(.n 126)] [(.t true)] [(.v 0)])) (.ret [(.n 0)] [(.t false)] [.nil]))))))
def b56_2 : Vx.T := (.lb (.an (.cm .geq (.iv 0) (.n 70)) (.cm .leq (.iv 0) (.n 79))) (.ite (.bv 1) (.ite (.bv 1) (.lst [(.els [[(.i (.n 127))], [(.i (.n 127))]])] (.ret [(.n 127)] [(.t true)] [(.v 0)])) (.lb (.an (.cm .geq (.iv 0) (.n 81)) (.cm .leq (.iv 0) (.n 90))) (.ite (.bv 2) (.lst [(.els [[(.i (.n 126))], [(.i (.n 126))]])] (.ret [(.n 127)] [(.t true)] [(.v 0)])) (.lb (.an (.cm .geq (.iv 0) (.n 124)) (.cm .leq (.iv 0) (.n 138))) (.ite (.bv 3) (.lst [(.els [[(.i (.n 126))], [(.i (.n 126))]])] (.ret [(.n 126)] [(.t true)] [(.v 0)])) (.ret [(.n 0)] [(.t false)] [.nil])))))) (.lb (.an (.cm .geq (.iv 0) (.n 106)) (.cm .leq (.iv 0) (.n 120))) b56_1)))
def b56_3 : Vx.T := (.ite (.bv 3) (.lst [(.els [[(.i (.n 127))], [(.i (.n 127))]])] (.ret [(.n 127)] [(.t true)] [(.v 0)])) (.lb (.an (.cm .geq (.iv 0) (.n 81)) (.cm .leq (.iv 0) (.n 90))) (.ite (.bv 4) (.lst [(.els [[(.i (.n 126))], [(.i (.n 126))]])] (.ret [(.n 127)] [(.t true)] [(.v 0)])) (.lb (.an (.cm .geq (.iv 0) (.n 124)) (.cm .leq (.iv 0) (.n 138))) (.ite (.bv 5) (.lst [(.els [[(.i (.n 126))], [(.i (.n 126))]])] (.ret [(.n 126)] [(.t true)] [(.v 0)])) (.ret [(.n 0)] [(.t false)] [.nil]))))))
def b56_4 : Vx.T := (.lb (.an (.cm .geq (.iv 0) (.n 70)) (.cm .leq (.iv 0) (.n 79))) (.ite (.bv 2) b56_1 (.lb (.an (.cm .geq (.iv 0) (.n 106)) (.cm .leq (.iv 0) (.n 120))) b56_3)))
def b56_5 : Vx.T := (.ite (.bv 1) (.lst [(.els [[(.i (.n 126))]])] (.ret [(.n 126)] [(.t true)] [(.v 0)])) (.ite (.cm .eql (.iv 0) (.n 172)) (.ite (.cm .eql (.iv 0) (.n 172)) (.lst [(.els [[(.i (.n 127))]])] (.ret [(.n 126)] [(.t true)] [(.v 0)])) b56_4) (.ite (.cm .eql (.iv 0) (.n 173)) (.lst [(.els [[(.i (.n 127))]])] (.ret [(.n 126)] [(.t true)] [(.v 0)])) b56_4)))
def b56_6 : Vx.T := (.lb (.an (.cm .geq (.iv 0) (.n 121)) (.cm .leq (.iv 0) (.n 123))) (.ite (.bv 0) (.ite (.bv 0) (.lst [(.els [[(.i (.n 126))]])] (.ret [(.n 126)] [(.t true)] [(.v 0)])) (.ite (.cm .eql (.iv 0) (.n 172)) (.ite (.cm .eql (.iv 0) (.n 172)) (.lst [(.els [[(.i (.n 127))]])] (.ret [(.n 126)] [(.t true)] [(.v 0)])) b56_2) (.ite (.cm .eql (.iv 0) (.n 173)) (.lst [(.els [[(.i (.n 127))]])] (.ret [(.n 126)] [(.t true)] [(.v 0)])) b56_2))) (.lb (.an (.cm .geq (.iv 0) (.n 194)) (.cm .leq (.iv 0) (.n 196))) b56_5)))
def b56_7 : Vx.T := (.lb (.an (.cm .geq (.iv 0) (.n 70)) (.cm .leq (.iv 0) (.n 79))) (.ite (.bv 3) b56_3 (.lb (.an (.cm .geq (.iv 0) (.n 106)) (.cm .leq (.iv 0) (.n 120))) (.ite (.bv 4) (.lst [(.els [[(.i (.n 127))], [(.i (.n 127))]])] (.ret [(.n 127)] [(.t true)] [(.v 0)])) (.lb (.an (.cm .geq (.iv 0) (.n 81)) (.cm .leq (.iv 0) (.n 90))) (.ite (.bv 5) (.lst [(.els [[(.i (.n 126))], [(.i (.n 126))]])] (.ret [(.n 127)] [(.t true)] [(.v 0)])) (.lb (.an (.cm .geq (.iv 0) (.n 124)) (.cm .leq (.iv 0) (.n 138))) (.ite (.bv 6) (.lst [(.els [[(.i (.n 126))], [(.i (.n 126))]])] (.ret [(.n 126)] [(.t true)] [(.v 0)])) (.ret [(.n 0)] [(.t false)] [.nil])))))))))
def b56_8 : Vx.T := (.lb (.an (.cm .geq (.iv 0) (.n 121)) (.cm .leq (.iv 0) (.n 123))) (.ite (.bv 1) b56_5 (.lb (.an (.cm .geq (.iv 0) (.n 194)) (.cm .leq (.iv 0) (.n 196))) (.ite (.bv 2) (.lst [(.els [[(.i (.n 126))]])] (.ret [(.n 126)] [(.t true)] [(.v 0)])) (.ite (.cm .eql (.iv 0) (.n 172)) (.ite (.cm .eql (.iv 0) (.n 172)) (.lst [(.els [[(.i (.n 127))]])] (.ret [(.n 126)] [(.t true)] [(.v 0)])) b56_7) (.ite (.cm .eql (.iv 0) (.n 173)) (.lst [(.els [[(.i (.n 127))]])] (.ret [(.n 126)] [(.t true)] [(.v 0)])) b56_7))))))
def b56_9 : Vx.T := (.ite (.cm .eql (.iv 0) (.n 80)) (.ite (.cm .eql (.iv 0) (.n 80)) (.lst [(.els [[(.i (.n 126))]])] (.ret [(.n 127)] [(.t true)] [(.v 0)])) b56_8) (.ite (.cm .eql (.iv 0) (.n 167)) (.lst [(.els [[(.i (.n 126))]])] (.ret [(.n 127)] [(.t true)] [(.v 0)])) b56_8))
def t56 : Vx.T := (.ite (.cm .eql (.iv 0) (.n 69)) (.ite (.cm .eql (.iv 0) (.n 69)) (.lst [(.els [[(.i (.n 127))]])] (.ret [(.n 127)] [(.t true)] [(.v 0)])) (.ite (.cm .eql (.iv 0) (.n 80)) (.ite (.cm .eql (.iv 0) (.n 80)) (.lst [(.els [[(.i (.n 126))]])] (.ret [(.n 127)] [(.t true)] [(.v 0)])) b56_6) (.ite (.cm .eql (.iv 0) (.n 167)) (.lst [(.els [[(.i (.n 126))]])] (.ret [(.n 127)] [(.t true)] [(.v 0)])) b56_6))) (.lb (.an (.cm .geq (.iv 0) (.n 103)) (.cm .leq (.iv 0) (.n 105))) (.ite (.bv 0) (.ite (.bv 0) (.lst [(.els [[(.i (.n 127))]])] (.ret [(.n 127)] [(.t true)] [(.v 0)])) b56_9) (.ite (.cm .eql (.iv 0) (.n 192)) (.ite (.cm .eql (.iv 0) (.n 192)) (.lst [(.els [[(.i (.n 127))]])] (.ret [(.n 127)] [(.t true)] [(.v 0)])) b56_9) (.ite (.cm .eql (.iv 0) (.n 193)) (.lst [(.els [[(.i (.n 127))]])] (.ret [(.n 127)] [(.t true)] [(.v 0)])) b56_9)))))
def a56 : Tab := []
theorem x56 : sxFn Try.prog (Tab.sig a56) (inlN Try.prog (Tab.sig a56) (hintOf hs) 6) H56 Try.f56 (Try.f56.body.getD .skip) s56 = t56 := by kernel_rfl
def F56 : Vx.Fn := Vx.Fd t56 (Tab.fn a56)
theorem g56 : Vx.Good Try.prog True_ 56 s56 F56 := good_of_tree hm hI Tab.Good.nil H56 hs 6 Try.func56 rfl (by kernel_rfl) x56
/-! trammel/instr.between -/
def s57 : Sig := ⟨[(.v (.i .i64)), (.v (.i .i64)), (.v (.i .i64))], [(.v .b)]⟩
def H57 : Hint := ⟨[], [], [], 12, false⟩
def t57 : Vx.T := (.lb (.an (.cm .geq (.iv 0) (.iv 1)) (.cm .leq (.iv 0) (.iv 2))) (.ret [] [(.bv 0)] []))
def a57 : Tab := []
theorem x57 : sxFn Try.prog (Tab.sig a57) (inlN Try.prog (Tab.sig a57) (hintOf hs) 6) H57 Try.f57 (Try.f57.body.getD .skip) s57 = t57 := by kernel_rfl
def F57 : Vx.Fn := Vx.Fd t57 (Tab.fn a57)
theorem g57 : Vx.Good Try.prog True_ 57 s57 F57 := good_of_tree hm hI Tab.Good.nil H57 hs 6 Try.func57 rfl (by kernel_rfl) x57
/-! trammel/instr.form -/
def s33 : Sig := ⟨[(.v (.i .i64))], [(.v (.i .i64))]⟩
def H33 : Hint := ⟨[], [(100004, some ⟨[(11, false, [.b])], [], [], [13, 14, 15, 16, 17, 18], [], []⟩), (100005, some ⟨[(11, false, [.b])], [], [], [14, 15, 16, 17, 18], [], []⟩), (100006, some ⟨[(11, false, [.b])], [], [], [15, 16, 17, 18], [], []⟩), (100007, some ⟨[(11, false, [.b])], [], [], [16, 17, 18], [], []⟩), (100008, some ⟨[(11, false, [.b])], [], [], [17, 18], [], []⟩), (100009, some ⟨[(11, false, [.b])], [], [], [18], [], []⟩), (100012, some ⟨[(19, false, [.b])], [], [], [21, 22], [], []⟩), (100013, some ⟨[(19, false, [.b])], [], [], [22], [], []⟩), (100016, some ⟨[(23, false, [.b])], [], [], [25, 26, 27, 28, 29, 30, 31, 32, 33], [], []⟩), (100017, some ⟨[(23, false, [.b])], [], [], [26, 27, 28, 29, 30, 31, 32, 33], [], []⟩), (100018, some ⟨[(23, false, [.b])], [], [], [27, 28, 29, 30, 31, 32, 33], [], []⟩), (100019, some ⟨[(23, false, [.b])], [], [], [28, 29, 30, 31, 32, 33], [], []⟩), (100020, some ⟨[(23, false, [.b])], [], [], [29, 30, 31, 32, 33], [], []⟩), (100021, some ⟨[(23, false, [.b])], [], [], [30, 31, 32, 33], [], []⟩), (100022, some ⟨[(23, false, [.b])], [], [], [31, 32, 33], [], []⟩), (100023, some ⟨[(23, false, [.b])], [], [], [32, 33], [], []⟩), (100024, some ⟨[(23, false, [.b])], [], [], [33], [], []⟩), (100029, some ⟨[(36, false, [.b])], [], [], [38, 39], [], []⟩), (100030, some ⟨[(36, false, [.b])], [], [], [39], [], []⟩), (100033, some ⟨[(40, false, [.b])], [], [], [42, 43], [], []⟩), (100034, some ⟨[(40, false, [.b])], [], [], [43], [], []⟩), (100045, some ⟨[(52, false, [.b])], [], [], [54, 55, 56, 57, 58, 59, 60, 61, 62, 63, 64, 65, 66, 67, 68], [], []⟩), (100046, some ⟨[(52, false, [.b])], [], [], [55, 56, 57, 58, 59, 60, 61, 62, 63, 64, 65, 66, 67, 68], [], []⟩), (100047, some ⟨[(52, false, [.b])], [], [], [56, 57, 58, 59, 60, 61, 62, 63, 64, 65, 66, 67, 68], [], []⟩), (100048, some ⟨[(52, false, [.b])], [], [], [57, 58, 59, 60, 61, 62, 63, 64, 65, 66, 67, 68], [], []⟩), (100049, some ⟨[(52, false, [.b])], [], [], [58, 59, 60, 61, 62, 63, 64, 65, 66, 67, 68], [], []⟩), (100050, some ⟨[(52, false, [.b])], [], [], [59, 60, 61, 62, 63, 64, 65, 66, 67, 68], [], []⟩), (100051, some ⟨[(52, false, [.b])], [], [], [60, 61, 62, 63, 64, 65, 66, 67, 68], [], []⟩), (100052, some ⟨[(52, false, [.b])], [], [], [61, 62, 63, 64, 65, 66, 67, 68], [], []⟩), (100053, some ⟨[(52, false, [.b])], [], [], [62, 63, 64, 65, 66, 67, 68], [], []⟩), (100054, some ⟨[(52, false, [.b])], [], [], [63, 64, 65, 66, 67, 68], [], []⟩), (100055, some ⟨[(52, false, [.b])], [], [], [64, 65, 66, 67, 68], [], []⟩), (100056, some ⟨[(52, false, [.b])], [], [], [65, 66, 67, 68], [], []⟩), (100057, some ⟨[(52, false, [.b])], [], [], [66, 67, 68], [], []⟩), (100058, some ⟨[(52, false, [.b])], [], [], [67, 68], [], []⟩), (100059, some ⟨[(52, false, [.b])], [], [], [68], [], []⟩)], [], 12, false⟩
def t33 : Vx.T := (.jn (.ite (.cm .eql (.iv 0) (.n 0)) (.brk 0 [] [(.cm .eql (.iv 0) (.n 0))] []) (.jn (.ite (.cm .eql (.iv 0) (.n 1)) (.brk 0 [] [(.cm .eql (.iv 0) (.n 1))] []) (.jn (.ite (.cm .eql (.iv 0) (.n 5)) (.brk 0 [] [(.cm .eql (.iv 0) (.n 5))] []) (.jn (.ite (.cm .eql (.iv 0) (.n 11)) (.brk 0 [] [(.cm .eql (.iv 0) (.n 11))] []) (.jn (.ite (.cm .eql (.iv 0) (.n 15)) (.brk 0 [] [(.cm .eql (.iv 0) (.n 15))] []) (.jn (.ite (.cm .eql (.iv 0) (.n 26)) (.brk 0 [] [(.cm .eql (.iv 0) (.n 26))] []) (.brk 0 [] [(.cm .eql (.iv 0) (.n 27))] [])) 0 1 0 (.rq (.cm .eql (.iv 1) (.n 0)) (.brk 0 [] [(.bv 0)] [])))) 0 1 0 (.rq (.cm .eql (.iv 1) (.n 0)) (.brk 0 [] [(.bv 0)] [])))) 0 1 0 (.rq (.cm .eql (.iv 1) (.n 0)) (.brk 0 [] [(.bv 0)] [])))) 0 1 0 (.rq (.cm .eql (.iv 1) (.n 0)) (.brk 0 [] [(.bv 0)] [])))) 0 1 0 (.rq (.cm .eql (.iv 1) (.n 0)) (.brk 0 [] [(.bv 0)] [])))) 0 1 0 (.rq (.cm .eql (.iv 1) (.n 0)) (.ite (.bv 0) (.ret [(.n 1)] [] []) (.jn (.ite (.cm .eql (.iv 0) (.n 2)) (.brk 0 [] [(.cm .eql (.iv 0) (.n 2))] []) (.jn (.ite (.cm .eql (.iv 0) (.n 3)) (.brk 0 [] [(.cm .eql (.iv 0) (.n 3))] []) (.brk 0 [] [(.cm .eql (.iv 0) (.n 4))] [])) 0 1 0 (.rq (.cm .eql (.iv 2) (.n 0)) (.brk 0 [] [(.bv 1)] [])))) 0 1 0 (.rq (.cm .eql (.iv 2) (.n 0)) (.ite (.bv 1) (.ret [(.n 2)] [] []) (.jn (.ite (.cm .eql (.iv 0) (.n 12)) (.brk 0 [] [(.cm .eql (.iv 0) (.n 12))] []) (.jn (.ite (.cm .eql (.iv 0) (.n 13)) (.brk 0 [] [(.cm .eql (.iv 0) (.n 13))] []) (.jn (.ite (.cm .eql (.iv 0) (.n 16)) (.brk 0 [] [(.cm .eql (.iv 0) (.n 16))] []) (.jn (.ite (.cm .eql (.iv 0) (.n 32)) (.brk 0 [] [(.cm .eql (.iv 0) (.n 32))] []) (.jn (.ite (.cm .eql (.iv 0) (.n 33)) (.brk 0 [] [(.cm .eql (.iv 0) (.n 33))] []) (.jn (.ite (.cm .eql (.iv 0) (.n 34)) (.brk 0 [] [(.cm .eql (.iv 0) (.n 34))] []) (.jn (.ite (.cm .eql (.iv 0) (.n 35)) (.brk 0 [] [(.cm .eql (.iv 0) (.n 35))] []) (.jn (.ite (.cm .eql (.iv 0) (.n 36)) (.brk 0 [] [(.cm .eql (.iv 0) (.n 36))] []) (.jn (.ite (.cm .eql (.iv 0) (.n 265)) (.brk 0 [] [(.cm .eql (.iv 0) (.n 265))] []) (.brk 0 [] [(.cm .eql (.iv 0) (.n 269))] [])) 0 1 0 (.rq (.cm .eql (.iv 3) (.n 0)) (.brk 0 [] [(.bv 2)] [])))) 0 1 0 (.rq (.cm .eql (.iv 3) (.n 0)) (.brk 0 [] [(.bv 2)] [])))) 0 1 0 (.rq (.cm .eql (.iv 3) (.n 0)) (.brk 0 [] [(.bv 2)] [])))) 0 1 0 (.rq (.cm .eql (.iv 3) (.n 0)) (.brk 0 [] [(.bv 2)] [])))) 0 1 0 (.rq (.cm .eql (.iv 3) (.n 0)) (.brk 0 [] [(.bv 2)] [])))) 0 1 0 (.rq (.cm .eql (.iv 3) (.n 0)) (.brk 0 [] [(.bv 2)] [])))) 0 1 0 (.rq (.cm .eql (.iv 3) (.n 0)) (.brk 0 [] [(.bv 2)] [])))) 0 1 0 (.rq (.cm .eql (.iv 3) (.n 0)) (.brk 0 [] [(.bv 2)] [])))) 0 1 0 (.rq (.cm .eql (.iv 3) (.n 0)) (.ite (.bv 2) (.ret [(.n 3)] [] []) (.ite (.cm .eql (.iv 0) (.n 14)) (.ret [(.n 4)] [] []) (.jn (.ite (.cm .eql (.iv 0) (.n 17)) (.brk 0 [] [(.cm .eql (.iv 0) (.n 17))] []) (.jn (.ite (.cm .eql (.iv 0) (.n 268)) (.brk 0 [] [(.cm .eql (.iv 0) (.n 268))] []) (.brk 0 [] [(.cm .eql (.iv 0) (.n 270))] [])) 0 1 0 (.rq (.cm .eql (.iv 4) (.n 0)) (.brk 0 [] [(.bv 3)] [])))) 0 1 0 (.rq (.cm .eql (.iv 4) (.n 0)) (.ite (.bv 3) (.ret [(.n 5)] [] []) (.jn (.ite (.cm .eql (.iv 0) (.n 63)) (.brk 0 [] [(.cm .eql (.iv 0) (.n 63))] []) (.jn (.ite (.cm .eql (.iv 0) (.n 64)) (.brk 0 [] [(.cm .eql (.iv 0) (.n 64))] []) (.brk 0 [] [(.cm .eql (.iv 0) (.n 267))] [])) 0 1 0 (.rq (.cm .eql (.iv 5) (.n 0)) (.brk 0 [] [(.bv 4)] [])))) 0 1 0 (.rq (.cm .eql (.iv 5) (.n 0)) (.ite (.bv 4) (.ret [(.n 6)] [] []) (.ite (.cm .eql (.iv 0) (.n 266)) (.ret [(.n 7)] [] []) (.ite (.cm .eql (.iv 0) (.n 65)) (.ret [(.n 8)] [] []) (.ite (.cm .eql (.iv 0) (.n 66)) (.ret [(.n 9)] [] []) (.ite (.cm .eql (.iv 0) (.n 264)) (.ret [(.n 10)] [] []) (.jn (.ite (.cm .eql (.iv 0) (.n 28)) (.brk 0 [] [(.cm .eql (.iv 0) (.n 28))] []) (.jn (.ite (.cm .eql (.iv 0) (.n 37)) (.brk 0 [] [(.cm .eql (.iv 0) (.n 37))] []) (.jn (.ite (.cm .eql (.iv 0) (.n 38)) (.brk 0 [] [(.cm .eql (.iv 0) (.n 38))] []) (.jn (.ite (.cm .eql (.iv 0) (.n 42)) (.brk 0 [] [(.cm .eql (.iv 0) (.n 42))] []) (.jn (.ite (.cm .eql (.iv 0) (.n 43)) (.brk 0 [] [(.cm .eql (.iv 0) (.n 43))] []) (.jn (.ite (.cm .eql (.iv 0) (.n 56)) (.brk 0 [] [(.cm .eql (.iv 0) (.n 56))] []) (.jn (.ite (.cm .eql (.iv 0) (.n 57)) (.brk 0 [] [(.cm .eql (.iv 0) (.n 57))] []) (.jn (.ite (.cm .eql (.iv 0) (.n 67)) (.brk 0 [] [(.cm .eql (.iv 0) (.n 67))] []) (.jn (.ite (.cm .eql (.iv 0) (.n 68)) (.brk 0 [] [(.cm .eql (.iv 0) (.n 68))] []) (.jn (.ite (.cm .eql (.iv 0) (.n 208)) (.brk 0 [] [(.cm .eql (.iv 0) (.n 208))] []) (.jn (.ite (.cm .eql (.iv 0) (.n 209)) (.brk 0 [] [(.cm .eql (.iv 0) (.n 209))] []) (.jn (.ite (.cm .eql (.iv 0) (.n 210)) (.brk 0 [] [(.cm .eql (.iv 0) (.n 210))] []) (.jn (.ite (.cm .eql (.iv 0) (.n 253)) (.brk 0 [] [(.cm .eql (.iv 0) (.n 253))] []) (.jn (.ite (.cm .eql (.iv 0) (.n 271)) (.brk 0 [] [(.cm .eql (.iv 0) (.n 271))] []) (.jn (.ite (.cm .eql (.iv 0) (.n 272)) (.brk 0 [] [(.cm .eql (.iv 0) (.n 272))] []) (.brk 0 [] [(.cm .eql (.iv 0) (.n 273))] [])) 0 1 0 (.rq (.cm .eql (.iv 6) (.n 0)) (.brk 0 [] [(.bv 5)] [])))) 0 1 0 (.rq (.cm .eql (.iv 6) (.n 0)) (.brk 0 [] [(.bv 5)] [])))) 0 1 0 (.rq (.cm .eql (.iv 6) (.n 0)) (.brk 0 [] [(.bv 5)] [])))) 0 1 0 (.rq (.cm .eql (.iv 6) (.n 0)) (.brk 0 [] [(.bv 5)] [])))) 0 1 0 (.rq (.cm .eql (.iv 6) (.n 0)) (.brk 0 [] [(.bv 5)] [])))) 0 1 0 (.rq (.cm .eql (.iv 6) (.n 0)) (.brk 0 [] [(.bv 5)] [])))) 0 1 0 (.rq (.cm .eql (.iv 6) (.n 0)) (.brk 0 [] [(.bv 5)] [])))) 0 1 0 (.rq (.cm .eql (.iv 6) (.n 0)) (.brk 0 [] [(.bv 5)] [])))) 0 1 0 (.rq (.cm .eql (.iv 6) (.n 0)) (.brk 0 [] [(.bv 5)] [])))) 0 1 0 (.rq (.cm .eql (.iv 6) (.n 0)) (.brk 0 [] [(.bv 5)] [])))) 0 1 0 (.rq (.cm .eql (.iv 6) (.n 0)) (.brk 0 [] [(.bv 5)] [])))) 0 1 0 (.rq (.cm .eql (.iv 6) (.n 0)) (.brk 0 [] [(.bv 5)] [])))) 0 1 0 (.rq (.cm .eql (.iv 6) (.n 0)) (.brk 0 [] [(.bv 5)] [])))) 0 1 0 (.rq (.cm .eql (.iv 6) (.n 0)) (.brk 0 [] [(.bv 5)] [])))) 0 1 0 (.rq (.cm .eql (.iv 6) (.n 0)) (.ite (.bv 5) (.ret [(.n 11)] [] []) (.call 55 [(.iv 0)] [] [] 2 2 0 (.ite (.bv 7) (.ret [(.n 5)] [] []) (.call 56 [(.iv 0)] [] [] 1 1 1 (.ite (.bv 8) (.ret [(.n 1)] [] []) (.call 57 [(.iv 0), (.n 91), (.n 102)] [] [] 0 1 0 (.ite (.nt (.bv 9)) (.call 57 [(.iv 0), (.n 139), (.n 166)] [] [] 0 1 0 (.ite (.nt (.bv 10)) (.call 57 [(.iv 0), (.n 168), (.n 171)] [] [] 0 1 0 (.ite (.nt (.bv 11)) (.call 57 [(.iv 0), (.n 174), (.n 191)] [] [] 0 1 0 (.ite (.nt (.bv 12)) (.call 57 [(.iv 0), (.n 256), (.n 263)] [] [] 0 1 0 (.ite (.bv 13) (.ret [(.n 11)] [] []) (.ret [(.n 0)] [] []))) (.ret [(.n 11)] [] []))) (.ret [(.n 11)] [] []))) (.ret [(.n 11)] [] []))) (.ret [(.n 11)] [] []))))))))))))))))))))))))))))))
def a33 : Tab := [⟨55, s55, F55⟩, ⟨56, s56, F56⟩, ⟨57, s57, F57⟩]
theorem x33 : sxFn Try.prog (Tab.sig a33) (inlN Try.prog (Tab.sig a33) (hintOf hs) 6) H33 Try.f33 (Try.f33.body.getD .skip) s33 = t33 := by kernel_rfl
theorem e33_55 : Tab.fn a33 55 = F55 := by kernel_rfl
theorem e33_56 : Tab.fn a33 56 = F56 := by kernel_rfl
theorem e33_57 : Tab.fn a33 57 = F57 := by kernel_rfl
def F33 : Vx.Fn := Vx.Fd t33 (Tab.fn a33)
theorem g33 : Vx.Good Try.prog True_ 33 s33 F33 := good_of_tree hm hI (gcons g55 (gcons g56 (gcons g57 Tab.Good.nil))) H33 hs 6 Try.func33 rfl (by kernel_rfl) x33
/-! (*trammel/instr.reader).code -/
def s42 : Sig := ⟨[(.bx [(.lf [(.i .u8)]), (.i .i64), (.i .i64)])], [(.v (.i .i64))]⟩
def H42 : Hint := ⟨[], [], [], 12, false⟩
def t42 : Vx.T := (.call 61 [(.iv 0), (.iv 1)] [] [(.v 0)] 3 0 1 (.lb (.an (.cm .eql (.iv 2) (.n 252)) (.cm .eql (.iv 4) (.n 0))) (.ite (.bv 0) (.call 44 [(.iv 3), (.iv 4)] [] [(.v 1)] 3 0 1 (.ite (.cm .gtr (.iv 5) (.n 255)) (.call 26 [(.iv 6), (.iv 7), (.n 2)] [] [(.v 2)] 2 0 1 (.ite (.cm .neq (.iv 9) (.n 0)) (.ret [(.n 0), (.iv 8), (.iv 9)] [] [(.v 3)]) (.call 33 [(.ar .add .i64 (.n 256) (.iv 5))] [] [] 1 0 0 (.ite (.cm .eql (.iv 10) (.n 0)) (.call 26 [(.iv 8), (.iv 9), (.n 2)] [] [(.v 3)] 2 0 1 (.ret [(.ar .add .i64 (.n 256) (.iv 5)), (.iv 11), (.iv 12)] [] [(.v 4)])) (.ite (.cm .eql (.iv 10) (.n 11)) (.call 26 [(.iv 8), (.iv 9), (.n 3)] [] [(.v 3)] 2 0 1 (.ret [(.ar .add .i64 (.n 256) (.iv 5)), (.iv 11), (.iv 12)] [] [(.v 4)])) (.ret [(.ar .add .i64 (.n 256) (.iv 5)), (.iv 8), (.iv 9)] [] [(.v 3)])))))) (.ite (.cm .neq (.iv 7) (.n 0)) (.ret [(.n 0), (.iv 6), (.iv 7)] [] [(.v 2)]) (.call 33 [(.ar .add .i64 (.n 256) (.iv 5))] [] [] 1 0 0 (.ite (.cm .eql (.iv 8) (.n 0)) (.call 26 [(.iv 6), (.iv 7), (.n 2)] [] [(.v 2)] 2 0 1 (.ret [(.ar .add .i64 (.n 256) (.iv 5)), (.iv 9), (.iv 10)] [] [(.v 3)])) (.ite (.cm .eql (.iv 8) (.n 11)) (.call 26 [(.iv 6), (.iv 7), (.n 3)] [] [(.v 2)] 2 0 1 (.ret [(.ar .add .i64 (.n 256) (.iv 5)), (.iv 9), (.iv 10)] [] [(.v 3)])) (.ret [(.ar .add .i64 (.n 256) (.iv 5)), (.iv 6), (.iv 7)] [] [(.v 2)]))))))) (.ite (.cm .neq (.iv 4) (.n 0)) (.ret [(.n 0), (.iv 3), (.iv 4)] [] [(.v 1)]) (.call 33 [(.iv 2)] [] [] 1 0 0 (.ite (.cm .eql (.iv 5) (.n 0)) (.call 26 [(.iv 3), (.iv 4), (.n 2)] [] [(.v 1)] 2 0 1 (.ret [(.iv 2), (.iv 6), (.iv 7)] [] [(.v 2)])) (.ite (.cm .eql (.iv 5) (.n 11)) (.call 26 [(.iv 3), (.iv 4), (.n 3)] [] [(.v 1)] 2 0 1 (.ret [(.iv 2), (.iv 6), (.iv 7)] [] [(.v 2)])) (.ret [(.iv 2), (.iv 3), (.iv 4)] [] [(.v 1)]))))))))
def a42 : Tab := [⟨61, s61, F61⟩, ⟨44, s44, F44⟩, ⟨26, s26, F26⟩, ⟨33, s33, F33⟩]
theorem x42 : sxFn Try.prog (Tab.sig a42) (inlN Try.prog (Tab.sig a42) (hintOf hs) 6) H42 Try.f42 (Try.f42.body.getD .skip) s42 = t42 := by kernel_rfl
theorem e42_61 : Tab.fn a42 61 = F61 := by kernel_rfl
theorem e42_44 : Tab.fn a42 44 = F44 := by kernel_rfl
theorem e42_26 : Tab.fn a42 26 = F26 := by kernel_rfl
theorem e42_33 : Tab.fn a42 33 = F33 := by kernel_rfl
def F42 : Vx.Fn := Vx.Fd t42 (Tab.fn a42)
theorem g42 : Vx.Good Try.prog True_ 42 s42 F42 := good_of_tree hm hI (gcons g61 (gcons g44 (gcons g26 (gcons g33 Tab.Good.nil)))) H42 hs 6 Try.func42 rfl (by kernel_rfl) x42
/-! trammel/typ.Val -/
def s72 : Sig := ⟨[(.v (.lf [(.i .u8)]))], [(.v (.i .i64)), (.v (.i .i64)), (.v (.i .i64))]⟩
def H72 : Hint := ⟨[], [], [], 12, false⟩
def t72 : Vx.T := (.ite (.cm .eql (.ln 0) (.n 0)) (.ret [(.n 0), (.n 0), (.n 1)] [] []) (.rq (.cm .lss (.n 0) (.ln 0)) (.ite (.cm .eql (.ix 0 (.n 0) 0) (.n 127)) (.ite (.cm .eql (.ix 0 (.n 0) 0) (.n 127)) (.ret [(.cv .i64 (.ix 0 (.n 0) 0)), (.n 1), (.n 0)] [] []) (.ite (.cm .eql (.ix 0 (.n 0) 0) (.n 125)) (.ite (.cm .eql (.ix 0 (.n 0) 0) (.n 125)) (.ret [(.n 0), (.n 0), (.n 3)] [] []) (.ret [(.n 0), (.n 0), (.n 2)] [] [])) (.ite (.cm .eql (.ix 0 (.n 0) 0) (.n 124)) (.ite (.cm .eql (.ix 0 (.n 0) 0) (.n 124)) (.ret [(.n 0), (.n 0), (.n 3)] [] []) (.ret [(.n 0), (.n 0), (.n 2)] [] [])) (.ite (.cm .eql (.ix 0 (.n 0) 0) (.n 123)) (.ite (.cm .eql (.ix 0 (.n 0) 0) (.n 123)) (.ret [(.n 0), (.n 0), (.n 3)] [] []) (.ret [(.n 0), (.n 0), (.n 2)] [] [])) (.ite (.cm .eql (.ix 0 (.n 0) 0) (.n 112)) (.ite (.cm .eql (.ix 0 (.n 0) 0) (.n 112)) (.ret [(.n 0), (.n 0), (.n 3)] [] []) (.ret [(.n 0), (.n 0), (.n 2)] [] [])) (.ite (.cm .eql (.ix 0 (.n 0) 0) (.n 111)) (.ret [(.n 0), (.n 0), (.n 3)] [] []) (.ret [(.n 0), (.n 0), (.n 2)] [] []))))))) (.ite (.cm .eql (.ix 0 (.n 0) 0) (.n 126)) (.ret [(.cv .i64 (.ix 0 (.n 0) 0)), (.n 1), (.n 0)] [] []) (.ite (.cm .eql (.ix 0 (.n 0) 0) (.n 125)) (.ite (.cm .eql (.ix 0 (.n 0) 0) (.n 125)) (.ret [(.n 0), (.n 0), (.n 3)] [] []) (.ret [(.n 0), (.n 0), (.n 2)] [] [])) (.ite (.cm .eql (.ix 0 (.n 0) 0) (.n 124)) (.ite (.cm .eql (.ix 0 (.n 0) 0) (.n 124)) (.ret [(.n 0), (.n 0), (.n 3)] [] []) (.ret [(.n 0), (.n 0), (.n 2)] [] [])) (.ite (.cm .eql (.ix 0 (.n 0) 0) (.n 123)) (.ite (.cm .eql (.ix 0 (.n 0) 0) (.n 123)) (.ret [(.n 0), (.n 0), (.n 3)] [] []) (.ret [(.n 0), (.n 0), (.n 2)] [] [])) (.ite (.cm .eql (.ix 0 (.n 0) 0) (.n 112)) (.ite (.cm .eql (.ix 0 (.n 0) 0) (.n 112)) (.ret [(.n 0), (.n 0), (.n 3)] [] []) (.ret [(.n 0), (.n 0), (.n 2)] [] [])) (.ite (.cm .eql (.ix 0 (.n 0) 0) (.n 111)) (.ret [(.n 0), (.n 0), (.n 3)] [] []) (.ret [(.n 0), (.n 0), (.n 2)] [] []))))))))))
def a72 : Tab := []
theorem x72 : sxFn Try.prog (Tab.sig a72) (inlN Try.prog (Tab.sig a72) (hintOf hs) 6) H72 Try.f72 (Try.f72.body.getD .skip) s72 = t72 := by kernel_rfl
def F72 : Vx.Fn := Vx.Fd t72 (Tab.fn a72)
theorem g72 : Vx.Good Try.prog True_ 72 s72 F72 := good_of_tree hm hI Tab.Good.nil H72 hs 6 Try.func72 rfl (by kernel_rfl) x72
/-! trammel/leb.S -/
def s64 : Sig := ⟨[(.v (.lf [(.i .u8)])), (.v (.i .i64))], [(.v (.i .i64)), (.v (.i .i64)), (.v (.i .i64))]⟩
def H64 : Hint := ⟨[], [], [], 12, false⟩
def t64 : Vx.T := (.call 73 [(.iv 0)] [] [(.v 0)] 4 0 0 (.ite (.cm .neq (.iv 4) (.n 0)) (.ret [(.n 0), (.n 0), (.iv 4)] [] []) (.li (.ar .sub .i64 (.iv 0) (.ar .mul .i64 (.n 7) (.ar .sub .i64 (.iv 3) (.n 1)))) (.ite (.cm .lss (.iv 5) (.n 7)) (.rq (.cm .geq (.cv .u64 (.ar .sub .i64 (.iv 5) (.n 1))) (.n 0)) (.lb (.cm .neq (.ar .shr .u8 (.iv 2) (.cv .u64 (.ar .sub .i64 (.iv 5) (.n 1)))) (.n 0)) (.rq (.oo (.nt (.bv 0)) (.cm .geq (.cv .u64 (.ar .sub .i64 (.iv 5) (.n 1))) (.n 0))) (.lb (.cm .neq (.ar .shr .u8 (.iv 2) (.cv .u64 (.ar .sub .i64 (.iv 5) (.n 1)))) (.ar .shr .u8 (.n 127) (.cv .u64 (.ar .sub .i64 (.iv 5) (.n 1))))) (.ite (.an (.bv 0) (.bv 1)) (.ret [(.n 0), (.n 0), (.n 2)] [] []) (.lb (.an (.cm .lss (.ar .mul .i64 (.n 7) (.iv 3)) (.n 64)) (.cm .neq (.ar .and .u8 (.iv 2) (.n 64)) (.n 0))) (.ite (.bv 2) (.rq (.cm .geq (.cv .u64 (.ar .mul .i64 (.n 7) (.iv 3))) (.n 0)) (.li (.ar .or .u64 (.iv 1) (.ar .shl .u64 (.n 18446744073709551615) (.cv .u64 (.ar .mul .i64 (.n 7) (.iv 3))))) (.ret [(.cv .i64 (.iv 6)), (.iv 3), (.n 0)] [] []))) (.ret [(.cv .i64 (.iv 1)), (.iv 3), (.n 0)] [] [])))))))) (.lb (.an (.cm .lss (.ar .mul .i64 (.n 7) (.iv 3)) (.n 64)) (.cm .neq (.ar .and .u8 (.iv 2) (.n 64)) (.n 0))) (.ite (.bv 0) (.rq (.cm .geq (.cv .u64 (.ar .mul .i64 (.n 7) (.iv 3))) (.n 0)) (.li (.ar .or .u64 (.iv 1) (.ar .shl .u64 (.n 18446744073709551615) (.cv .u64 (.ar .mul .i64 (.n 7) (.iv 3))))) (.ret [(.cv .i64 (.iv 6)), (.iv 3), (.n 0)] [] []))) (.ret [(.cv .i64 (.iv 1)), (.iv 3), (.n 0)] [] [])))))))
def a64 : Tab := [⟨73, s73, F73⟩]
theorem x64 : sxFn Try.prog (Tab.sig a64) (inlN Try.prog (Tab.sig a64) (hintOf hs) 6) H64 Try.f64 (Try.f64.body.getD .skip) s64 = t64 := by kernel_rfl
theorem e64_73 : Tab.fn a64 73 = F73 := by kernel_rfl
def F64 : Vx.Fn := Vx.Fd t64 (Tab.fn a64)
theorem g64 : Vx.Good Try.prog True_ 64 s64 F64 := good_of_tree hm hI (gcons g73 Tab.Good.nil) H64 hs 6 Try.func64 rfl (by kernel_rfl) x64
/-! trammel/typ.Block -/
def s62 : Sig := ⟨[(.v (.lf [(.i .u8)]))], [(.v (.i .i64)), (.v (.i .i64)), (.v (.i .i64))]⟩
def H62 : Hint := ⟨[], [], [], 12, false⟩
def t62 : Vx.T := (.rq (.oo (.nt (.cm .gtr (.ln 0) (.n 0))) (.cm .lss (.n 0) (.ln 0))) (.ite (.cm .gtr (.ln 0) (.n 0)) (.rq (.cm .lss (.n 0) (.ln 0)) (.ite (.cm .eql (.ix 0 (.n 0) 0) (.n 64)) (.ret [(.n (-64)), (.n 1), (.n 0)] [] []) (.call 72 [] [] [(.v 0)] 3 0 0 (.ite (.cm .neq (.iv 2) (.n 2)) (.ite (.cm .neq (.iv 2) (.n 0)) (.ret [(.n 0), (.n 0), (.iv 2)] [] []) (.ret [(.ar .sub .i64 (.iv 0) (.n 128)), (.n 1), (.n 0)] [] [])) (.call 64 [(.n 33)] [] [(.v 0)] 3 0 0 (.ite (.cm .neq (.iv 5) (.n 0)) (.ret [(.n 0), (.n 0), (.iv 5)] [] []) (.ite (.cm .lss (.iv 3) (.n 0)) (.ret [(.n 0), (.n 0), (.n 2)] [] []) (.ret [(.iv 3), (.iv 4), (.n 0)] [] [])))))))) (.call 72 [] [] [(.v 0)] 3 0 0 (.ite (.cm .neq (.iv 2) (.n 2)) (.ite (.cm .neq (.iv 2) (.n 0)) (.ret [(.n 0), (.n 0), (.iv 2)] [] []) (.ret [(.ar .sub .i64 (.iv 0) (.n 128)), (.n 1), (.n 0)] [] [])) (.call 64 [(.n 33)] [] [(.v 0)] 3 0 0 (.ite (.cm .neq (.iv 5) (.n 0)) (.ret [(.n 0), (.n 0), (.iv 5)] [] []) (.ite (.cm .lss (.iv 3) (.n 0)) (.ret [(.n 0), (.n 0), (.n 2)] [] []) (.ret [(.iv 3), (.iv 4), (.n 0)] [] []))))))))
def a62 : Tab := [⟨72, s72, F72⟩, ⟨64, s64, F64⟩]
theorem x62 : sxFn Try.prog (Tab.sig a62) (inlN Try.prog (Tab.sig a62) (hintOf hs) 6) H62 Try.f62 (Try.f62.body.getD .skip) s62 = t62 := by kernel_rfl
theorem e62_72 : Tab.fn a62 72 = F72 := by kernel_rfl
theorem e62_64 : Tab.fn a62 64 = F64 := by kernel_rfl
def F62 : Vx.Fn := Vx.Fd t62 (Tab.fn a62)
theorem g62 : Vx.Good Try.prog True_ 62 s62 F62 := good_of_tree hm hI (gcons g72 (gcons g64 Tab.Good.nil)) H62 hs 6 Try.func62 rfl (by kernel_rfl) x62
/-! (*trammel/instr.reader).block -/
def s43 : Sig := ⟨[(.bx [(.lf [(.i .u8)]), (.i .i64), (.i .i64)])], [(.v (.i .i64))]⟩
def H43 : Hint := ⟨[], [], [], 12, false⟩
def t43 : Vx.T := (.ite (.cm .neq (.iv 1) (.n 0)) (.ret [(.n 0), (.iv 0), (.iv 1)] [] [(.v 0)]) (.rq (.an (.cm .leq (.n 0) (.iv 0)) (.an (.cm .leq (.iv 0) (.ln 0)) (.cm .leq (.ln 0) (.ln 0)))) (.lst [(.cut (.v 0) (.iv 0) (.ln 0))] (.call 62 [] [] [(.v 1)] 3 0 0 (.call 26 [(.iv 0), (.iv 1), (.iv 4)] [] [(.v 0)] 2 0 1 (.ret [(.iv 2), (.ar .add .i64 (.iv 5) (.iv 3)), (.iv 6)] [] [(.v 2)]))))))
def a43 : Tab := [⟨62, s62, F62⟩, ⟨26, s26, F26⟩]
theorem x43 : sxFn Try.prog (Tab.sig a43) (inlN Try.prog (Tab.sig a43) (hintOf hs) 6) H43 Try.f43 (Try.f43.body.getD .skip) s43 = t43 := by kernel_rfl
theorem e43_62 : Tab.fn a43 62 = F62 := by kernel_rfl
theorem e43_26 : Tab.fn a43 26 = F26 := by kernel_rfl
def F43 : Vx.Fn := Vx.Fd t43 (Tab.fn a43)
theorem g43 : Vx.Good Try.prog True_ 43 s43 F43 := good_of_tree hm hI (gcons g62 (gcons g26 Tab.Good.nil)) H43 hs 6 Try.func43 rfl (by kernel_rfl) x43
/-! (*trammel/instr.reader).labels -/
def s45 : Sig := ⟨[(.bx [(.lf [(.i .u8)]), (.i .i64), (.i .i64)])], [(.v (.lo 3 [(.i .i64)]))]⟩
def H45 : Hint := ⟨[], [(7, some ⟨[(4, false, [.lo 3 [(.i .i64)]]), (5, false, [.i .i64])], [(0, 0, .lf [(.i .u8)]), (0, 1, .i .i64), (0, 2, .i .i64)], [], [17, 18, 19, 20, 21, 22, 23, 24, 25, 26, 27, 28, 29, 30, 31, 32, 33, 34, 35], [], []⟩)], [], 12, false⟩
def l45_1 : Vx.T := (.lb (.an (.cm .lss (.iv 7) (.iv 2)) (.cm .eql (.iv 9) (.n 0))) (.ite (.bv 1) (.call 44 [(.iv 8), (.iv 9)] [] [(.v 4)] 3 0 1 (.lst [(.els [[(.i (.iv 10))]])] (.rq (.an (.cm .leq (.ln 3) (.n 3909374676536)) (.cm .leq (.ln 6) (.n 3909374676536))) (.lst [(.ap (.v 3) (.v 6))] (.nxt [(.ar .add .i64 (.iv 7) (.n 1)), (.iv 11), (.iv 12)] [] [(.v 7), (.v 5)]))))) (.brk 2 [(.iv 7), (.iv 8), (.iv 9)] [] [(.v 3), (.v 4)])))
def k45_2 : Vx.T := (.rq (.cm .eql (.iv 7) (.n 2)) (.ret [(.iv 9), (.iv 10)] [] [(.v 3), (.v 4)]))
def l45_3 : Vx.T := (.lb (.an (.cm .lss (.iv 5) (.iv 2)) (.cm .eql (.iv 7) (.n 0))) (.ite (.bv 1) (.call 44 [(.iv 6), (.iv 7)] [] [(.v 3)] 3 0 1 (.lst [(.els [[(.i (.iv 8))]])] (.rq (.an (.cm .leq (.ln 2) (.n 3909374676536)) (.cm .leq (.ln 5) (.n 3909374676536))) (.lst [(.ap (.v 2) (.v 5))] (.nxt [(.ar .add .i64 (.iv 5) (.n 1)), (.iv 9), (.iv 10)] [] [(.v 6), (.v 4)]))))) (.brk 2 [(.iv 5), (.iv 6), (.iv 7)] [] [(.v 2), (.v 3)])))
def k45_4 : Vx.T := (.rq (.cm .eql (.iv 5) (.n 2)) (.ret [(.iv 7), (.iv 8)] [] [(.v 2), (.v 3)]))
def t45 : Vx.T := (.call 44 [(.iv 0), (.iv 1)] [] [(.v 0)] 3 0 1 (.lb (.an (.cm .eql (.iv 4) (.n 0)) (.cm .gtr (.iv 2) (.n 64))) (.ite (.bv 0) (.call 26 [(.iv 3), (.iv 4), (.n 4)] [] [(.v 1)] 2 0 1 (.lp [(.n 0), (.iv 5), (.iv 6)] [] [.nil, (.v 2)] 3 0 2 l45_1 k45_2)) (.lp [(.n 0), (.iv 3), (.iv 4)] [] [.nil, (.v 1)] 3 0 2 l45_3 k45_4))))
def a45 : Tab := [⟨44, s44, F44⟩, ⟨26, s26, F26⟩]
theorem x45 : sxFn Try.prog (Tab.sig a45) (inlN Try.prog (Tab.sig a45) (hintOf hs) 6) H45 Try.f45 (Try.f45.body.getD .skip) s45 = t45 := by kernel_rfl
theorem e45_44 : Tab.fn a45 44 = F44 := by kernel_rfl
theorem e45_26 : Tab.fn a45 26 = F26 := by kernel_rfl
def F45 : Vx.Fn := Vx.Fd t45 (Tab.fn a45)
theorem g45 : Vx.Good Try.prog True_ 45 s45 F45 := good_of_tree hm hI (gcons g44 (gcons g26 Tab.Good.nil)) H45 hs 6 Try.func45 rfl (by kernel_rfl) x45
/-! (*trammel/instr.reader).zero -/
def s46 : Sig := ⟨[(.bx [(.lf [(.i .u8)]), (.i .i64), (.i .i64)])], []⟩
def H46 : Hint := ⟨[], [(100002, some ⟨[], [(0, 0, .lf [(.i .u8)]), (0, 1, .i .i64), (0, 2, .i .i64)], [], [5, 6], [], []⟩)], [], 12, false⟩
def t46 : Vx.T := (.call 61 [(.iv 0), (.iv 1)] [] [(.v 0)] 3 0 1 (.jn (.ite (.cm .neq (.iv 2) (.n 0)) (.call 26 [(.iv 3), (.iv 4), (.n 2)] [] [(.v 1)] 2 0 1 (.brk 0 [(.iv 5), (.iv 6)] [] [(.v 2)])) (.brk 0 [(.iv 3), (.iv 4)] [] [(.v 1)])) 2 0 1 (.rq (.cm .eql (.iv 5) (.n 0)) (.ret [(.iv 6), (.iv 7)] [] [(.v 2)]))))
def a46 : Tab := [⟨61, s61, F61⟩, ⟨26, s26, F26⟩]
theorem x46 : sxFn Try.prog (Tab.sig a46) (inlN Try.prog (Tab.sig a46) (hintOf hs) 6) H46 Try.f46 (Try.f46.body.getD .skip) s46 = t46 := by kernel_rfl
theorem e46_61 : Tab.fn a46 61 = F61 := by kernel_rfl
theorem e46_26 : Tab.fn a46 26 = F26 := by kernel_rfl
def F46 : Vx.Fn := Vx.Fd t46 (Tab.fn a46)
theorem g46 : Vx.Good Try.prog True_ 46 s46 F46 := good_of_tree hm hI (gcons g61 (gcons g26 Tab.Good.nil)) H46 hs 6 Try.func46 rfl (by kernel_rfl) x46
/-! (*trammel/instr.reader).s -/
def s47 : Sig := ⟨[(.bx [(.lf [(.i .u8)]), (.i .i64), (.i .i64)]), (.v (.i .i64))], [(.v (.i .i64))]⟩
def H47 : Hint := ⟨[], [], [], 12, false⟩
def t47 : Vx.T := (.ite (.cm .neq (.iv 1) (.n 0)) (.ret [(.n 0), (.iv 0), (.iv 1)] [] [(.v 0)]) (.rq (.an (.cm .leq (.n 0) (.iv 0)) (.an (.cm .leq (.iv 0) (.ln 0)) (.cm .leq (.ln 0) (.ln 0)))) (.lst [(.cut (.v 0) (.iv 0) (.ln 0))] (.call 64 [(.iv 2)] [] [(.v 1)] 3 0 0 (.call 26 [(.iv 0), (.iv 1), (.iv 5)] [] [(.v 0)] 2 0 1 (.ret [(.iv 3), (.ar .add .i64 (.iv 6) (.iv 4)), (.iv 7)] [] [(.v 2)]))))))
def a47 : Tab := [⟨64, s64, F64⟩, ⟨26, s26, F26⟩]
theorem x47 : sxFn Try.prog (Tab.sig a47) (inlN Try.prog (Tab.sig a47) (hintOf hs) 6) H47 Try.f47 (Try.f47.body.getD .skip) s47 = t47 := by kernel_rfl
theorem e47_64 : Tab.fn a47 64 = F64 := by kernel_rfl
theorem e47_26 : Tab.fn a47 26 = F26 := by kernel_rfl
def F47 : Vx.Fn := Vx.Fd t47 (Tab.fn a47)
theorem g47 : Vx.Good Try.prog True_ 47 s47 F47 := good_of_tree hm hI (gcons g64 (gcons g26 Tab.Good.nil)) H47 hs 6 Try.func47 rfl (by kernel_rfl) x47
/-! (*trammel/instr.reader).instr -/
def s25 : Sig := ⟨[(.bx [(.lf [(.i .u8)]), (.i .i64), (.i .i64)])], [(.agg [(.i .i64), (.i .i64), (.i .i64), (.i .i64), (.lo 3 [(.i .i64)])])]⟩
def H25 : Hint := ⟨[], [], [], 12, false⟩
def t25 : Vx.T := (.call 42 [(.iv 0), (.iv 1)] [] [(.v 0)] 3 0 1 (.ite (.cm .neq (.iv 4) (.n 0)) (.ret [(.iv 2), (.n 0), (.n 0), (.n 0), (.iv 3), (.iv 4)] [] [.nil, (.v 1)]) (.call 33 [(.iv 2)] [] [] 1 0 0 (.ite (.cm .eql (.iv 5) (.n 2)) (.call 43 [(.iv 3), (.iv 4)] [] [(.v 1)] 3 0 1 (.ret [(.iv 2), (.iv 6), (.n 0), (.n 0), (.iv 7), (.iv 8)] [] [.nil, (.v 2)])) (.ite (.cm .eql (.iv 5) (.n 3)) (.call 44 [(.iv 3), (.iv 4)] [] [(.v 1)] 3 0 1 (.ret [(.iv 2), (.iv 6), (.n 0), (.n 0), (.iv 7), (.iv 8)] [] [.nil, (.v 2)])) (.ite (.cm .eql (.iv 5) (.n 4)) (.call 45 [(.iv 3), (.iv 4)] [] [(.v 1)] 2 0 2 (.call 44 [(.iv 6), (.iv 7)] [] [(.v 3)] 3 0 1 (.ret [(.iv 2), (.iv 8), (.n 0), (.n 0), (.iv 9), (.iv 10)] [] [(.v 2), (.v 4)]))) (.ite (.cm .eql (.iv 5) (.n 5)) (.call 44 [(.iv 3), (.iv 4)] [] [(.v 1)] 3 0 1 (.call 44 [(.iv 7), (.iv 8)] [] [(.v 2)] 3 0 1 (.ret [(.iv 2), (.iv 6), (.iv 9), (.n 0), (.iv 10), (.iv 11)] [] [.nil, (.v 3)]))) (.ite (.cm .eql (.iv 5) (.n 6)) (.call 46 [(.iv 3), (.iv 4)] [] [(.v 1)] 2 0 1 (.ret [(.iv 2), (.n 0), (.n 0), (.n 0), (.iv 6), (.iv 7)] [] [.nil, (.v 2)])) (.ite (.cm .eql (.iv 5) (.n 7)) (.call 46 [(.iv 3), (.iv 4)] [] [(.v 1)] 2 0 1 (.call 46 [(.iv 6), (.iv 7)] [] [(.v 2)] 2 0 1 (.ret [(.iv 2), (.n 0), (.n 0), (.n 0), (.iv 8), (.iv 9)] [] [.nil, (.v 3)]))) (.ite (.cm .eql (.iv 5) (.n 8)) (.call 47 [(.iv 3), (.iv 4), (.n 32)] [] [(.v 1)] 3 0 1 (.ret [(.iv 2), (.n 0), (.n 0), (.iv 6), (.iv 7), (.iv 8)] [] [.nil, (.v 2)])) (.ite (.cm .eql (.iv 5) (.n 9)) (.call 47 [(.iv 3), (.iv 4), (.n 64)] [] [(.v 1)] 3 0 1 (.ret [(.iv 2), (.n 0), (.n 0), (.iv 6), (.iv 7), (.iv 8)] [] [.nil, (.v 2)])) (.ite (.cm .eql (.iv 5) (.n 10)) (.call 44 [(.iv 3), (.iv 4)] [] [(.v 1)] 3 0 1 (.call 46 [(.iv 7), (.iv 8)] [] [(.v 2)] 2 0 1 (.ret [(.iv 2), (.iv 6), (.n 0), (.n 0), (.iv 9), (.iv 10)] [] [.nil, (.v 3)]))) (.ret [(.iv 2), (.n 0), (.n 0), (.n 0), (.iv 3), (.iv 4)] [] [.nil, (.v 1)])))))))))))))
def a25 : Tab := [⟨42, s42, F42⟩, ⟨33, s33, F33⟩, ⟨43, s43, F43⟩, ⟨44, s44, F44⟩, ⟨45, s45, F45⟩, ⟨46, s46, F46⟩, ⟨47, s47, F47⟩]
theorem x25 : sxFn Try.prog (Tab.sig a25) (inlN Try.prog (Tab.sig a25) (hintOf hs) 6) H25 Try.f25 (Try.f25.body.getD .skip) s25 = t25 := by kernel_rfl
theorem e25_42 : Tab.fn a25 42 = F42 := by kernel_rfl
theorem e25_33 : Tab.fn a25 33 = F33 := by kernel_rfl
theorem e25_43 : Tab.fn a25 43 = F43 := by kernel_rfl
theorem e25_44 : Tab.fn a25 44 = F44 := by kernel_rfl
theorem e25_45 : Tab.fn a25 45 = F45 := by kernel_rfl
theorem e25_46 : Tab.fn a25 46 = F46 := by kernel_rfl
theorem e25_47 : Tab.fn a25 47 = F47 := by kernel_rfl
def F25 : Vx.Fn := Vx.Fd t25 (Tab.fn a25)
theorem g25 : Vx.Good Try.prog True_ 25 s25 F25 := good_of_tree hm hI (gcons g42 (gcons g33 (gcons g43 (gcons g44 (gcons g45 (gcons g46 (gcons g47 Tab.Good.nil))))))) H25 hs 6 Try.func25 rfl (by kernel_rfl) x25
/-! trammel/instr.One -/
def s23 : Sig := ⟨[(.v (.lf [(.i .u8)]))], [(.agg [(.i .i64), (.i .i64), (.i .i64), (.i .i64), (.lo 3 [(.i .i64)])]), (.v (.i .i64)), (.v (.i .i64))]⟩
def H23 : Hint := ⟨[], [], [], 12, false⟩
def t23 : Vx.T := (.call 25 [(.n 0), (.n 0)] [] [(.v 0)] 6 0 2 (.ite (.cm .neq (.iv 5) (.n 0)) (.ret [(.n 0), (.n 0), (.n 0), (.n 0), (.n 0), (.iv 5)] [] [.nil]) (.ret [(.iv 0), (.iv 1), (.iv 2), (.iv 3), (.iv 4), (.n 0)] [] [(.v 1)])))
def a23 : Tab := [⟨25, s25, F25⟩]
theorem x23 : sxFn Try.prog (Tab.sig a23) (inlN Try.prog (Tab.sig a23) (hintOf hs) 6) H23 Try.f23 (Try.f23.body.getD .skip) s23 = t23 := by kernel_rfl
theorem e23_25 : Tab.fn a23 25 = F25 := by kernel_rfl
def F23 : Vx.Fn := Vx.Fd t23 (Tab.fn a23)
theorem g23 : Vx.Good Try.prog True_ 23 s23 F23 := good_of_tree hm hI (gcons g25 Tab.Good.nil) H23 hs 6 Try.func23 rfl (by kernel_rfl) x23
/-! (*trammel/instr.nest).step -/
def s27 : Sig := ⟨[(.bx [(.lo 4 [.b])]), (.agg [(.i .i64), (.i .i64), (.i .i64), (.i .i64), (.lf [(.i .i64)])])], [(.v .b), (.v (.i .i64))]⟩
def H27 : Hint := ⟨[67], [], [], 12, false⟩
def b27_1 : Vx.T := (.ite (.cm .geq (.ln 0) (.n 64)) (.ret [(.n 4)] [(.t false)] [(.v 0)]) (.lst [(.els [[(.b (.cm .eql (.iv 0) (.n 4)))]])] (.rq (.an (.cm .leq (.ln 0) (.n 17592186044416)) (.cm .leq (.ln 2) (.n 17592186044416))) (.lst [(.ap (.v 0) (.v 2))] (.ret [(.n 0)] [(.t false)] [(.v 3)])))))
def b27_2 : Vx.T := (.ite (.cm .eql (.iv 0) (.n 5)) (.rq (.oo (.cm .lss (.ar .sub .i64 (.ln 0) (.n 1)) (.n 0)) (.an (.cm .geq (.ar .sub .i64 (.ln 0) (.n 1)) (.n 0)) (.cm .lss (.ar .sub .i64 (.ln 0) (.n 1)) (.ln 0)))) (.ite (.nt (.cm .lss (.ar .sub .i64 (.ln 0) (.n 1)) (.n 0))) (.rq (.an (.cm .geq (.ar .sub .i64 (.ln 0) (.n 1)) (.n 0)) (.cm .lss (.ar .sub .i64 (.ln 0) (.n 1)) (.ln 0))) (.ite (.nt (.bx 0 (.ar .sub .i64 (.ln 0) (.n 1)) 0)) (.ret [(.n 2)] [(.t false)] [(.v 0)]) (.rq (.an (.cm .geq (.ar .sub .i64 (.ln 0) (.n 1)) (.n 0)) (.cm .lss (.ar .sub .i64 (.ln 0) (.n 1)) (.ln 0))) (.rq (.an (.cm .geq (.ar .sub .i64 (.ln 0) (.n 1)) (.n 0)) (.cm .lss (.ar .sub .i64 (.ln 0) (.n 1)) (.ln 0))) (.lst [(.up 0 1 (.ar .sub .i64 (.ln 0) (.n 1)) 0 [(.b (.t false))])] (.ret [(.n 0)] [(.t false)] [(.v 2)])))))) (.ret [(.n 2)] [(.t false)] [(.v 0)]))) (.ite (.cm .eql (.iv 0) (.n 11)) (.ite (.cm .lss (.ar .sub .i64 (.ln 0) (.n 1)) (.n 0)) (.ret [(.n 0)] [(.t true)] [(.v 0)]) (.rq (.an (.cm .leq (.n 0) (.ar .sub .i64 (.ln 0) (.n 1))) (.cm .leq (.ar .sub .i64 (.ln 0) (.n 1)) (.ln 0))) (.lst [(.cut (.v 0) (.n 0) (.ar .sub .i64 (.ln 0) (.n 1)))] (.ret [(.n 0)] [(.t false)] [(.v 2)])))) (.ret [(.n 0)] [(.t false)] [(.v 0)])))
def t27 : Vx.T := (.ite (.cm .eql (.iv 0) (.n 2)) (.ite (.cm .eql (.iv 0) (.n 2)) b27_1 b27_2) (.ite (.cm .eql (.iv 0) (.n 3)) (.ite (.cm .eql (.iv 0) (.n 3)) b27_1 b27_2) (.ite (.cm .eql (.iv 0) (.n 4)) b27_1 b27_2)))
def a27 : Tab := []
theorem x27 : sxFn Try.prog (Tab.sig a27) (inlN Try.prog (Tab.sig a27) (hintOf hs) 6) H27 Try.f27 (Try.f27.body.getD .skip) s27 = t27 := by kernel_rfl
def F27 : Vx.Fn := Vx.Fd t27 (Tab.fn a27)
theorem g27 : Vx.Good Try.prog True_ 27 s27 F27 := good_of_tree hm hI Tab.Good.nil H27 hs 6 Try.func27 rfl (by kernel_rfl) x27
/-! trammel/instr.Body -/
def s9 : Sig := ⟨[(.v (.lf [(.i .u8)]))], [(.v (.lo 34 [(.i .i64), (.i .i64), (.i .i64), (.i .i64), (.sl [(.i .i64)])])), (.v (.i .i64)), (.v (.i .i64))]⟩
def H9 : Hint := ⟨[], [(5, some ⟨[(2, false, [.lo 34 [(.i .i64), (.i .i64), (.i .i64), (.i .i64), (.sl [(.i .i64)])]]), (3, false, [.i .i64]), (4, false, [.i .i64]), (7, false, [.lo 34 [(.i .i64), (.i .i64), (.i .i64), (.i .i64), (.sl [(.i .i64)])]])], [(0, 0, .lf [(.i .u8)]), (0, 1, .i .i64), (0, 2, .i .i64), (1, 0, .lo 4 [.b])], [], [8, 9, 10, 14, 15, 16, 17, 18, 19, 20, 21, 22, 23, 24, 25, 26, 27, 28, 29, 30, 31, 32, 33, 34, 35, 36, 37, 38, 39, 40, 41, 42, 43, 44, 45, 46, 47, 48, 49, 50, 51, 52, 53, 54], [], []⟩)], [], 12, false⟩
def l9_1 : Vx.T := (.call 25 [(.iv 2), (.iv 3)] [] [(.v 3)] 6 0 2 (.lb (.an (.cm .eql (.iv 9) (.n 0)) (.cm .geq (.ln 2) (.n 2000))) (.ite (.bv 0) (.call 26 [(.iv 8), (.iv 9), (.n 4)] [] [(.v 6)] 2 0 1 (.ite (.cm .neq (.iv 11) (.n 0)) (.rt (.ret [(.n 0), (.iv 11)] [] [.nil])) (.call 27 [(.iv 4), (.iv 5), (.iv 6), (.iv 7)] [] [(.v 4), (.v 5)] 1 1 1 (.ite (.cm .neq (.iv 12) (.n 0)) (.rt (.ret [(.n 0), (.iv 12)] [] [.nil])) (.lst [(.els [[(.i (.iv 4)), (.i (.iv 5)), (.i (.iv 6)), (.i (.iv 7)), (.l 5)]])] (.rq (.an (.cm .leq (.ln 2) (.n 617269685768)) (.cm .leq (.ln 9) (.n 617269685768))) (.lst [(.ap (.v 2) (.v 9))] (.ite (.bv 1) (.rt (.ret [(.iv 10), (.n 0)] [] [(.v 10)])) (.nxt [(.iv 0), (.iv 1), (.iv 10), (.iv 11)] [] [(.v 1), (.v 10), (.v 7), (.v 8)]))))))))) (.ite (.cm .neq (.iv 9) (.n 0)) (.rt (.ret [(.n 0), (.iv 9)] [] [.nil])) (.call 27 [(.iv 4), (.iv 5), (.iv 6), (.iv 7)] [] [(.v 4), (.v 5)] 1 1 1 (.ite (.cm .neq (.iv 10) (.n 0)) (.rt (.ret [(.n 0), (.iv 10)] [] [.nil])) (.lst [(.els [[(.i (.iv 4)), (.i (.iv 5)), (.i (.iv 6)), (.i (.iv 7)), (.l 5)]])] (.rq (.an (.cm .leq (.ln 2) (.n 617269685768)) (.cm .leq (.ln 8) (.n 617269685768))) (.lst [(.ap (.v 2) (.v 8))] (.ite (.bv 1) (.rt (.ret [(.iv 8), (.n 0)] [] [(.v 9)])) (.nxt [(.iv 0), (.iv 1), (.iv 8), (.iv 9)] [] [(.v 1), (.v 9), (.v 6), (.v 7)])))))))))))
def k9_2 : Vx.T := (.fail 8)
def t9 : Vx.T := (.lp [(.n 0), (.n 0), (.n 0), (.n 0)] [] [.nil, .nil, (.v 0), .nil] 4 0 4 l9_1 k9_2)
def a9 : Tab := [⟨25, s25, F25⟩, ⟨26, s26, F26⟩, ⟨27, s27, F27⟩]
theorem x9 : sxFn Try.prog (Tab.sig a9) (inlN Try.prog (Tab.sig a9) (hintOf hs) 6) H9 Try.f9 (Try.f9.body.getD .skip) s9 = t9 := by kernel_rfl
theorem e9_25 : Tab.fn a9 25 = F25 := by kernel_rfl
theorem e9_26 : Tab.fn a9 26 = F26 := by kernel_rfl
theorem e9_27 : Tab.fn a9 27 = F27 := by kernel_rfl
def F9 : Vx.Fn := Vx.Fd t9 (Tab.fn a9)
theorem g9 : Vx.Good Try.prog True_ 9 s9 F9 := good_of_tree hm hI (gcons g25 (gcons g26 (gcons g27 Tab.Good.nil))) H9 hs 6 Try.func9 rfl (by kernel_rfl) x9
/-! trammel/trammellaw06.awake -/
def s8 : Sig := ⟨[], [(.v .b)]⟩
def H8 : Hint := ⟨[], [], [], 12, false⟩
def t8 : Vx.T := (.lst [(.els [[(.i (.n 65))], [(.i (.n 127))], [(.i (.n 5))]])] (.call 23 [] [] [(.v 0)] 6 0 1 (.lst [(.els [[(.i (.n 2))], [(.i (.n 64))], [(.i (.n 11))], [(.i (.n 11))], [(.i (.n 0))]])] (.call 9 [] [] [(.v 2)] 2 0 1 (.lb (.an (.cm .eql (.iv 5) (.n 0)) (.cm .eql (.iv 3) (.n (-1)))) (.lb (.an (.an (.bv 0) (.cm .eql (.iv 4) (.n 2))) (.cm .eql (.iv 7) (.n 0))) (.lb (.an (.an (.bv 1) (.cm .eql (.ln 3) (.n 3))) (.cm .eql (.iv 6) (.n 4))) (.ret [] [(.bv 2)] []))))))))
def a8 : Tab := [⟨23, s23, F23⟩, ⟨9, s9, F9⟩]
theorem x8 : sxFn Try.prog (Tab.sig a8) (inlN Try.prog (Tab.sig a8) (hintOf hs) 6) H8 Try.f8 (Try.f8.body.getD .skip) s8 = t8 := by kernel_rfl
theorem e8_23 : Tab.fn a8 23 = F23 := by kernel_rfl
theorem e8_9 : Tab.fn a8 9 = F9 := by kernel_rfl
def F8 : Vx.Fn := Vx.Fd t8 (Tab.fn a8)
theorem g8 : Vx.Good Try.prog True_ 8 s8 F8 := good_of_tree hm hI (gcons g23 (gcons g9 Tab.Good.nil)) H8 hs 6 Try.func8 rfl (by kernel_rfl) x8
/-! trammel/trammelref06.Short -/
def s10 : Sig := ⟨[(.v (.lf [(.i .i64), (.i .i64), (.i .i64), (.i .i64), (.sl [(.i .i64)])]))], [(.v .b)]⟩
def H10 : Hint := ⟨[], [(6, some ⟨[(2, false, [.b]), (3, false, [.i .i64]), (4, false, [.i .i64])], [], [], [8, 9, 10, 11, 12, 13, 14, 15, 16, 17, 18, 19, 20, 21, 22, 23, 24, 25, 26, 27, 28], [], []⟩)], [], 12, false⟩
def l10_1 : Vx.T := (.ite (.cm .lss (.iv 1) (.ln 0)) (.rq (.cm .geq (.iv 1) (.n 0)) (.lst [(.cl 0 (.iv 1) 4)] (.ite (.cm .gtr (.ln 1) (.n 100)) (.rt (.ret [] [(.t false)] [])) (.lst [(.cl 0 (.iv 1) 4)] (.nxt [(.ar .add .i64 (.iv 0) (.ln 2)), (.ar .add .i64 (.iv 1) (.n 1))] [(.bv 0)] []))))) (.brk 2 [(.iv 0), (.iv 1)] [(.bv 0)] []))
def k10_2 : Vx.T := (.rq (.cm .eql (.iv 0) (.n 2)) (.ret [] [(.cm .leq (.iv 1) (.n 2000))] []))
def t10 : Vx.T := (.ite (.cm .gtr (.ln 0) (.n 2100)) (.ret [] [(.t false)] []) (.lp [(.n 0), (.n 0)] [(.t false)] [] 2 1 0 l10_1 k10_2))
def a10 : Tab := []
theorem x10 : sxFn Try.prog (Tab.sig a10) (inlN Try.prog (Tab.sig a10) (hintOf hs) 6) H10 Try.f10 (Try.f10.body.getD .skip) s10 = t10 := by kernel_rfl
def F10 : Vx.Fn := Vx.Fd t10 (Tab.fn a10)
theorem g10 : Vx.Good Try.prog True_ 10 s10 F10 := good_of_tree hm hI Tab.Good.nil H10 hs 6 Try.func10 rfl (by kernel_rfl) x10
/-! trammel/instr.bare -/
def s34 : Sig := ⟨[(.agg [(.i .i64), (.i .i64), (.i .i64), (.i .i64), (.lf [(.i .i64)])]), (.v .b), (.v .b), (.v .b), (.v .b)], [(.v .b)]⟩
def H34 : Hint := ⟨[], [], [], 12, false⟩
def t34 : Vx.T := (.lb (.an (.oo (.bv 0) (.cm .eql (.iv 1) (.n 0))) (.oo (.bv 1) (.cm .eql (.iv 2) (.n 0)))) (.lb (.an (.bv 4) (.oo (.bv 2) (.cm .eql (.iv 3) (.n 0)))) (.lb (.an (.bv 5) (.oo (.bv 3) (.cm .eql (.ln 0) (.n 0)))) (.ret [] [(.bv 6)] []))))
def a34 : Tab := []
theorem x34 : sxFn Try.prog (Tab.sig a34) (inlN Try.prog (Tab.sig a34) (hintOf hs) 6) H34 Try.f34 (Try.f34.body.getD .skip) s34 = t34 := by kernel_rfl
def F34 : Vx.Fn := Vx.Fd t34 (Tab.fn a34)
theorem g34 : Vx.Good Try.prog True_ 34 s34 F34 := good_of_tree hm hI Tab.Good.nil H34 hs 6 Try.func34 rfl (by kernel_rfl) x34
/-! trammel/typ.right -/
def s58 : Sig := ⟨[(.v (.i .i64))], [(.v .b)]⟩
def H58 : Hint := ⟨[], [], [], 12, false⟩
def t58 : Vx.T := (.lb (.an (.cm .geq (.iv 0) (.n 0)) (.cm .lss (.iv 0) (.n 4294967296))) (.ret [] [(.bv 0)] []))
def a58 : Tab := []
theorem x58 : sxFn Try.prog (Tab.sig a58) (inlN Try.prog (Tab.sig a58) (hintOf hs) 6) H58 Try.f58 (Try.f58.body.getD .skip) s58 = t58 := by kernel_rfl
def F58 : Vx.Fn := Vx.Fd t58 (Tab.fn a58)
theorem g58 : Vx.Good Try.prog True_ 58 s58 F58 := good_of_tree hm hI Tab.Good.nil H58 hs 6 Try.func58 rfl (by kernel_rfl) x58
/-! slices.Clone[[]byte,byte] -/
def s28 : Sig := ⟨[(.v (.lf [(.i .u8)]))], [(.v (.lo 5 [(.i .u8)]))]⟩
def H28 : Hint := ⟨[], [], [], 12, false⟩
def t28 : Vx.T := (.nz 0 (.ret [] [] [.nil]) (.lst [(.els [])] (.rq (.an (.cm .leq (.ln 1) (.n 17592186044416)) (.cm .leq (.ln 0) (.n 17592186044416))) (.lst [(.ap (.v 1) (.v 0))] (.ret [] [] [(.v 2)])))))
def a28 : Tab := []
theorem x28 : sxFn Try.prog (Tab.sig a28) (inlN Try.prog (Tab.sig a28) (hintOf hs) 6) H28 Try.f28 (Try.f28.body.getD .skip) s28 = t28 := by kernel_rfl
def F28 : Vx.Fn := Vx.Fd t28 (Tab.fn a28)
theorem g28 : Vx.Good Try.prog True_ 28 s28 F28 := good_of_tree hm hI Tab.Good.nil H28 hs 6 Try.func28 rfl (by kernel_rfl) x28
/-! trammel/leb.PutS -/
def s49 : Sig := ⟨[(.v (.lf [(.i .u8)])), (.v (.i .i64))], [(.v (.lo 5 [(.i .u8)]))]⟩
def H49 : Hint := ⟨[], [(3, some ⟨[(1, false, [.i .i64]), (5, false, [.lo 5 [(.i .u8)]])], [], [], [8, 9, 10, 11, 12, 13, 14, 15, 16, 17, 18, 19, 20, 21], [], [1]⟩)], [], 12, false⟩
def l49_1 : Vx.T := (.lb (.oo (.cm .lss (.iv 1) (.n (-64))) (.cm .gtr (.iv 1) (.n 63))) (.ite (.bv 0) (.lst [(.els [[(.i (.ar .or .u8 (.cv .u8 (.iv 1)) (.n 128)))]])] (.rq (.an (.cm .leq (.ln 2) (.n 17592186044416)) (.cm .leq (.ln 3) (.n 17592186044416))) (.lst [(.ap (.v 2) (.v 3))] (.nxt [(.ar .shr .i64 (.iv 1) (.n 7))] [] [(.v 4)])))) (.brk 2 [(.iv 1)] [] [(.v 2)])))
def k49_2 : Vx.T := (.rq (.cm .eql (.iv 1) (.n 2)) (.lst [(.els [[(.i (.ar .and .u8 (.cv .u8 (.iv 2)) (.n 127)))]])] (.rq (.an (.cm .leq (.ln 2) (.n 17592186044416)) (.cm .leq (.ln 3) (.n 17592186044416))) (.lst [(.ap (.v 2) (.v 3))] (.ret [] [] [(.v 4)])))))
def t49 : Vx.T := (.call 28 [] [] [(.v 0)] 0 0 1 (.lp [(.iv 0)] [] [(.v 1)] 1 0 1 l49_1 k49_2))
def a49 : Tab := [⟨28, s28, F28⟩]
theorem x49 : sxFn Try.prog (Tab.sig a49) (inlN Try.prog (Tab.sig a49) (hintOf hs) 6) H49 Try.f49 (Try.f49.body.getD .skip) s49 = t49 := by kernel_rfl
theorem e49_28 : Tab.fn a49 28 = F28 := by kernel_rfl
def F49 : Vx.Fn := Vx.Fd t49 (Tab.fn a49)
theorem g49 : Vx.Good Try.prog True_ 49 s49 F49 := good_of_tree hm hI (gcons g28 Tab.Good.nil) H49 hs 6 Try.func49 rfl (by kernel_rfl) x49
/-! trammel/typ.PutBlock -/
def s35 : Sig := ⟨[(.v (.lf [(.i .u8)])), (.v (.i .i64))], [(.v (.lo 5 [(.i .u8)])), (.v (.i .i64))]⟩
def H35 : Hint := ⟨[], [], [], 12, false⟩
def t35 : Vx.T := (.lb (.an (.cm .neq (.iv 0) (.n (-64))) (.cm .neq (.iv 0) (.n (-1)))) (.ite (.an (.bv 0) (.cm .neq (.iv 0) (.n (-2)))) (.call 58 [(.iv 0)] [] [] 0 1 0 (.ite (.nt (.bv 1)) (.ret [(.n 2)] [] [.nil]) (.call 49 [(.iv 0)] [] [(.v 0)] 0 0 1 (.ret [(.n 0)] [] [(.v 1)])))) (.call 49 [(.iv 0)] [] [(.v 0)] 0 0 1 (.ret [(.n 0)] [] [(.v 1)]))))
def a35 : Tab := [⟨58, s58, F58⟩, ⟨49, s49, F49⟩]
theorem x35 : sxFn Try.prog (Tab.sig a35) (inlN Try.prog (Tab.sig a35) (hintOf hs) 6) H35 Try.f35 (Try.f35.body.getD .skip) s35 = t35 := by kernel_rfl
theorem e35_58 : Tab.fn a35 58 = F58 := by kernel_rfl
theorem e35_49 : Tab.fn a35 49 = F49 := by kernel_rfl
def F35 : Vx.Fn := Vx.Fd t35 (Tab.fn a35)
theorem g35 : Vx.Good Try.prog True_ 35 s35 F35 := good_of_tree hm hI (gcons g58 (gcons g49 Tab.Good.nil)) H35 hs 6 Try.func35 rfl (by kernel_rfl) x35
/-! trammel/instr.number -/
def s36 : Sig := ⟨[(.v (.lf [(.i .i64)]))], [(.v .b)]⟩
def H36 : Hint := ⟨[], [], [], 12, false⟩
def l36_1 : Vx.T := (.ite (.cm .lss (.iv 1) (.ln 0)) (.rq (.cm .geq (.iv 1) (.n 0)) (.lb (.oo (.cm .lss (.ix 0 (.iv 1) 0) (.n 0)) (.cm .geq (.ix 0 (.iv 1) 0) (.n 4294967296))) (.ite (.bv 0) (.brk 1 [(.iv 1), (.iv 1)] [] []) (.nxt [(.iv 0), (.ar .add .i64 (.iv 1) (.n 1))] [] [])))) (.brk 2 [(.iv 0), (.iv 1)] [] []))
def k36_2 : Vx.T := (.ite (.cm .eql (.iv 0) (.n 1)) (.ret [] [(.nt (.cm .geq (.iv 1) (.n 0)))] []) (.rq (.cm .eql (.iv 0) (.n 2)) (.ret [] [(.t true)] [])))
def t36 : Vx.T := (.lp [(.n 0), (.n 0)] [] [] 2 0 0 l36_1 k36_2)
def a36 : Tab := []
theorem x36 : sxFn Try.prog (Tab.sig a36) (inlN Try.prog (Tab.sig a36) (hintOf hs) 6) H36 Try.f36 (Try.f36.body.getD .skip) s36 = t36 := by kernel_rfl
def F36 : Vx.Fn := Vx.Fd t36 (Tab.fn a36)
theorem g36 : Vx.Good Try.prog True_ 36 s36 F36 := good_of_tree hm hI Tab.Good.nil H36 hs 6 Try.func36 rfl (by kernel_rfl) x36
/-! trammel/instr.Formed -/
def s16 : Sig := ⟨[(.agg [(.i .i64), (.i .i64), (.i .i64), (.i .i64), (.lf [(.i .i64)])])], [(.v .b)]⟩
def H16 : Hint := ⟨[], [], [], 12, false⟩
def b16_1 : Vx.T := (.lst [(.els [[(.i (.iv 1))]])] (.call 36 [] [] [(.v 1)] 0 1 0 (.ite (.bv 0) (.call 34 [(.iv 0), (.iv 1), (.iv 2), (.iv 3)] [(.t true), (.t false), (.t false), (.t false)] [(.v 0)] 0 1 0 (.ret [] [(.bv 1)] [])) (.ret [] [(.t false)] []))))
def b16_2 : Vx.T := (.ite (.cm .eql (.iv 4) (.n 4)) (.lst [(.els [[(.i (.iv 1))]])] (.call 36 [] [] [(.v 1)] 0 1 0 (.ite (.bv 0) (.call 36 [] [] [(.v 0)] 0 1 0 (.ite (.an (.bv 1) (.cm .leq (.ln 0) (.n 64))) (.call 34 [(.iv 0), (.iv 1), (.iv 2), (.iv 3)] [(.t true), (.t false), (.t false), (.t true)] [(.v 0)] 0 1 0 (.ret [] [(.bv 2)] [])) (.ret [] [(.t false)] []))) (.ret [] [(.t false)] [])))) (.ite (.cm .eql (.iv 4) (.n 5)) (.lst [(.els [[(.i (.iv 1))], [(.i (.iv 2))]])] (.call 36 [] [] [(.v 1)] 0 1 0 (.ite (.bv 0) (.call 34 [(.iv 0), (.iv 1), (.iv 2), (.iv 3)] [(.t true), (.t true), (.t false), (.t false)] [(.v 0)] 0 1 0 (.ret [] [(.bv 1)] [])) (.ret [] [(.t false)] [])))) (.ite (.cm .eql (.iv 4) (.n 8)) (.lb (.an (.cm .geq (.iv 3) (.n (-2147483648))) (.cm .lss (.iv 3) (.n 2147483648))) (.ite (.bv 0) (.call 34 [(.iv 0), (.iv 1), (.iv 2), (.iv 3)] [(.t false), (.t false), (.t true), (.t false)] [(.v 0)] 0 1 0 (.ret [] [(.bv 1)] [])) (.ret [] [(.t false)] []))) (.ite (.cm .eql (.iv 4) (.n 9)) (.call 34 [(.iv 0), (.iv 1), (.iv 2), (.iv 3)] [(.t false), (.t false), (.t true), (.t false)] [(.v 0)] 0 1 0 (.ret [] [(.bv 0)] [])) (.ret [] [(.t false)] [])))))
def b16_3 : Vx.T := (.ite (.cm .eql (.iv 4) (.n 2)) (.call 35 [(.iv 1)] [] [.nil] 1 0 1 (.ite (.cm .eql (.iv 5) (.n 0)) (.call 34 [(.iv 0), (.iv 1), (.iv 2), (.iv 3)] [(.t true), (.t false), (.t false), (.t false)] [(.v 0)] 0 1 0 (.ret [] [(.bv 0)] [])) (.ret [] [(.t false)] []))) (.ite (.cm .eql (.iv 4) (.n 3)) (.ite (.cm .eql (.iv 4) (.n 3)) b16_1 b16_2) (.ite (.cm .eql (.iv 4) (.n 10)) b16_1 b16_2)))
def t16 : Vx.T := (.call 33 [(.iv 0)] [] [] 1 0 0 (.ite (.cm .eql (.iv 4) (.n 1)) (.ite (.cm .eql (.iv 4) (.n 1)) (.call 34 [(.iv 0), (.iv 1), (.iv 2), (.iv 3)] [(.t false), (.t false), (.t false), (.t false)] [(.v 0)] 0 1 0 (.ret [] [(.bv 0)] [])) b16_3) (.ite (.cm .eql (.iv 4) (.n 6)) (.ite (.cm .eql (.iv 4) (.n 6)) (.call 34 [(.iv 0), (.iv 1), (.iv 2), (.iv 3)] [(.t false), (.t false), (.t false), (.t false)] [(.v 0)] 0 1 0 (.ret [] [(.bv 0)] [])) b16_3) (.ite (.cm .eql (.iv 4) (.n 7)) (.call 34 [(.iv 0), (.iv 1), (.iv 2), (.iv 3)] [(.t false), (.t false), (.t false), (.t false)] [(.v 0)] 0 1 0 (.ret [] [(.bv 0)] [])) b16_3))))
def a16 : Tab := [⟨33, s33, F33⟩, ⟨34, s34, F34⟩, ⟨35, s35, F35⟩, ⟨36, s36, F36⟩]
theorem x16 : sxFn Try.prog (Tab.sig a16) (inlN Try.prog (Tab.sig a16) (hintOf hs) 6) H16 Try.f16 (Try.f16.body.getD .skip) s16 = t16 := by kernel_rfl
theorem e16_33 : Tab.fn a16 33 = F33 := by kernel_rfl
theorem e16_34 : Tab.fn a16 34 = F34 := by kernel_rfl
theorem e16_35 : Tab.fn a16 35 = F35 := by kernel_rfl
theorem e16_36 : Tab.fn a16 36 = F36 := by kernel_rfl
def F16 : Vx.Fn := Vx.Fd t16 (Tab.fn a16)
theorem g16 : Vx.Good Try.prog True_ 16 s16 F16 := good_of_tree hm hI (gcons g33 (gcons g34 (gcons g35 (gcons g36 Tab.Good.nil)))) H16 hs 6 Try.func16 rfl (by kernel_rfl) x16
/-! trammel/leb.PutU -/
def s48 : Sig := ⟨[(.v (.lf [(.i .u8)])), (.v (.i .u64))], [(.v (.lo 5 [(.i .u8)]))]⟩
def H48 : Hint := ⟨[], [(3, some ⟨[(1, false, [.i .u64]), (5, false, [.lo 5 [(.i .u8)]])], [], [], [8, 9, 10, 11, 12, 13, 14, 15, 16, 17], [], [1]⟩)], [], 12, false⟩
def l48_1 : Vx.T := (.ite (.cm .geq (.iv 1) (.n 128)) (.lst [(.els [[(.i (.ar .or .u8 (.cv .u8 (.iv 1)) (.n 128)))]])] (.rq (.an (.cm .leq (.ln 2) (.n 17592186044416)) (.cm .leq (.ln 3) (.n 17592186044416))) (.lst [(.ap (.v 2) (.v 3))] (.nxt [(.ar .shr .u64 (.iv 1) (.n 7))] [] [(.v 4)])))) (.brk 2 [(.iv 1)] [] [(.v 2)]))
def k48_2 : Vx.T := (.rq (.cm .eql (.iv 1) (.n 2)) (.lst [(.els [[(.i (.cv .u8 (.iv 2)))]])] (.rq (.an (.cm .leq (.ln 2) (.n 17592186044416)) (.cm .leq (.ln 3) (.n 17592186044416))) (.lst [(.ap (.v 2) (.v 3))] (.ret [] [] [(.v 4)])))))
def t48 : Vx.T := (.call 28 [] [] [(.v 0)] 0 0 1 (.lp [(.iv 0)] [] [(.v 1)] 1 0 1 l48_1 k48_2))
def a48 : Tab := [⟨28, s28, F28⟩]
theorem x48 : sxFn Try.prog (Tab.sig a48) (inlN Try.prog (Tab.sig a48) (hintOf hs) 6) H48 Try.f48 (Try.f48.body.getD .skip) s48 = t48 := by kernel_rfl
theorem e48_28 : Tab.fn a48 28 = F28 := by kernel_rfl
def F48 : Vx.Fn := Vx.Fd t48 (Tab.fn a48)
theorem g48 : Vx.Good Try.prog True_ 48 s48 F48 := good_of_tree hm hI (gcons g28 Tab.Good.nil) H48 hs 6 Try.func48 rfl (by kernel_rfl) x48
/-! trammel/instr.put -/
def s29 : Sig := ⟨[(.v (.lo 5 [(.i .u8)])), (.agg [(.i .i64), (.i .i64), (.i .i64), (.i .i64), (.lf [(.i .i64)])])], [(.v (.lo 5 [(.i .u8)]))]⟩
def H29 : Hint := ⟨[], [(13, some ⟨[(0, false, [.lo 5 [(.i .u8)]]), (54, false, [.i .i64])], [], [], [6, 55, 56, 57, 58, 59, 60, 61, 62], [], [3]⟩), (100003, some ⟨[(0, false, [.lo 5 [(.i .u8)]])], [], [], [10, 11, 12, 13, 14, 15, 16, 17, 18, 19, 20, 21, 22, 23], [], [0]⟩)], [], 12, false⟩
def l29_1 : Vx.T := (.ite (.cm .lss (.iv 6) (.ln 1)) (.rq (.cm .geq (.iv 6) (.n 0)) (.call 48 [(.cv .u64 (.ix 1 (.iv 6) 0))] [] [(.v 4)] 0 0 1 (.nxt [(.ar .add .i64 (.iv 6) (.n 1))] [] [(.v 5)]))) (.brk 3 [(.iv 6)] [] [(.v 4)]))
def k29_2 : Vx.T := (.rq (.cm .eql (.iv 6) (.n 3)) (.call 48 [(.cv .u64 (.iv 1))] [] [(.v 4)] 0 0 1 (.ret [] [] [(.v 5)])))
def t29 : Vx.T := (.jn (.ite (.cm .geq (.iv 0) (.n 256)) (.lst [(.els [[(.i (.n 252))]])] (.rq (.an (.cm .leq (.ln 0) (.n 17592186044416)) (.cm .leq (.ln 2) (.n 17592186044416))) (.lst [(.ap (.v 0) (.v 2))] (.call 48 [(.cv .u64 (.ar .sub .i64 (.iv 0) (.n 256)))] [] [(.v 3)] 0 0 1 (.brk 0 [] [] [(.v 4)]))))) (.lst [(.els [[(.i (.cv .u8 (.iv 0)))]])] (.rq (.an (.cm .leq (.ln 0) (.n 17592186044416)) (.cm .leq (.ln 2) (.n 17592186044416))) (.lst [(.ap (.v 0) (.v 2))] (.brk 0 [] [] [(.v 3)]))))) 0 0 1 (.rq (.cm .eql (.iv 4) (.n 0)) (.call 33 [(.iv 0)] [] [] 1 0 0 (.ite (.cm .eql (.iv 5) (.n 2)) (.call 35 [(.iv 1)] [] [(.v 2)] 1 0 1 (.ret [] [] [(.v 3)])) (.ite (.cm .eql (.iv 5) (.n 3)) (.call 48 [(.cv .u64 (.iv 1))] [] [(.v 2)] 0 0 1 (.ret [] [] [(.v 3)])) (.ite (.cm .eql (.iv 5) (.n 4)) (.call 48 [(.cv .u64 (.ln 1))] [] [(.v 2)] 0 0 1 (.lp [(.n 0)] [] [(.v 3)] 1 0 1 l29_1 k29_2)) (.ite (.cm .eql (.iv 5) (.n 5)) (.call 48 [(.cv .u64 (.iv 1))] [] [(.v 2)] 0 0 1 (.call 48 [(.cv .u64 (.iv 2))] [] [(.v 3)] 0 0 1 (.ret [] [] [(.v 4)]))) (.ite (.cm .eql (.iv 5) (.n 6)) (.lst [(.els [[(.i (.n 0))]])] (.rq (.an (.cm .leq (.ln 2) (.n 17592186044416)) (.cm .leq (.ln 3) (.n 17592186044416))) (.lst [(.ap (.v 2) (.v 3))] (.ret [] [] [(.v 4)])))) (.ite (.cm .eql (.iv 5) (.n 7)) (.lst [(.els [[(.i (.n 0))], [(.i (.n 0))]])] (.rq (.an (.cm .leq (.ln 2) (.n 17592186044416)) (.cm .leq (.ln 3) (.n 17592186044416))) (.lst [(.ap (.v 2) (.v 3))] (.ret [] [] [(.v 4)])))) (.ite (.cm .eql (.iv 5) (.n 8)) (.ite (.cm .eql (.iv 5) (.n 8)) (.call 49 [(.iv 3)] [] [(.v 2)] 0 0 1 (.ret [] [] [(.v 3)])) (.ite (.cm .eql (.iv 5) (.n 10)) (.call 48 [(.cv .u64 (.iv 1))] [] [(.v 2)] 0 0 1 (.lst [(.els [[(.i (.n 0))]])] (.rq (.an (.cm .leq (.ln 3) (.n 17592186044416)) (.cm .leq (.ln 4) (.n 17592186044416))) (.lst [(.ap (.v 3) (.v 4))] (.ret [] [] [(.v 5)]))))) (.ret [] [] [(.v 2)]))) (.ite (.cm .eql (.iv 5) (.n 9)) (.call 49 [(.iv 3)] [] [(.v 2)] 0 0 1 (.ret [] [] [(.v 3)])) (.ite (.cm .eql (.iv 5) (.n 10)) (.call 48 [(.cv .u64 (.iv 1))] [] [(.v 2)] 0 0 1 (.lst [(.els [[(.i (.n 0))]])] (.rq (.an (.cm .leq (.ln 3) (.n 17592186044416)) (.cm .leq (.ln 4) (.n 17592186044416))) (.lst [(.ap (.v 3) (.v 4))] (.ret [] [] [(.v 5)]))))) (.ret [] [] [(.v 2)])))))))))))))
def a29 : Tab := [⟨48, s48, F48⟩, ⟨33, s33, F33⟩, ⟨35, s35, F35⟩, ⟨49, s49, F49⟩]
theorem x29 : sxFn Try.prog (Tab.sig a29) (inlN Try.prog (Tab.sig a29) (hintOf hs) 6) H29 Try.f29 (Try.f29.body.getD .skip) s29 = t29 := by kernel_rfl
theorem e29_48 : Tab.fn a29 48 = F48 := by kernel_rfl
theorem e29_33 : Tab.fn a29 33 = F33 := by kernel_rfl
theorem e29_35 : Tab.fn a29 35 = F35 := by kernel_rfl
theorem e29_49 : Tab.fn a29 49 = F49 := by kernel_rfl
def F29 : Vx.Fn := Vx.Fd t29 (Tab.fn a29)
theorem g29 : Vx.Good Try.prog True_ 29 s29 F29 := good_of_tree hm hI (gcons g48 (gcons g33 (gcons g35 (gcons g49 Tab.Good.nil)))) H29 hs 6 Try.func29 rfl (by kernel_rfl) x29
/-! trammel/instr.Put -/
def s14 : Sig := ⟨[(.v (.lf [(.i .u8)])), (.agg [(.i .i64), (.i .i64), (.i .i64), (.i .i64), (.lf [(.i .i64)])])], [(.v (.lo 5 [(.i .u8)])), (.v (.i .i64))]⟩
def H14 : Hint := ⟨[], [], [], 12, false⟩
def t14 : Vx.T := (.call 16 [(.iv 0), (.iv 1), (.iv 2), (.iv 3)] [] [(.v 1)] 0 1 0 (.ite (.nt (.bv 0)) (.ret [(.n 2)] [] [.nil]) (.call 28 [] [] [(.v 0)] 0 0 1 (.call 29 [(.iv 0), (.iv 1), (.iv 2), (.iv 3)] [] [(.v 2), (.v 1)] 0 0 1 (.ret [(.n 0)] [] [(.v 3)])))))
def a14 : Tab := [⟨16, s16, F16⟩, ⟨28, s28, F28⟩, ⟨29, s29, F29⟩]
theorem x14 : sxFn Try.prog (Tab.sig a14) (inlN Try.prog (Tab.sig a14) (hintOf hs) 6) H14 Try.f14 (Try.f14.body.getD .skip) s14 = t14 := by kernel_rfl
theorem e14_16 : Tab.fn a14 16 = F16 := by kernel_rfl
theorem e14_28 : Tab.fn a14 28 = F28 := by kernel_rfl
theorem e14_29 : Tab.fn a14 29 = F29 := by kernel_rfl
def F14 : Vx.Fn := Vx.Fd t14 (Tab.fn a14)
theorem g14 : Vx.Good Try.prog True_ 14 s14 F14 := good_of_tree hm hI (gcons g16 (gcons g28 (gcons g29 Tab.Good.nil))) H14 hs 6 Try.func14 rfl (by kernel_rfl) x14
/-! trammel/trammelref05.SameInts -/
def s41 : Sig := ⟨[(.v (.lf [(.i .i64)])), (.v (.lf [(.i .i64)]))], [(.v .b)]⟩
def H41 : Hint := ⟨[], [(5, some ⟨[(4, false, [.b]), (5, false, [.i .i64])], [], [], [11, 12, 13, 14, 15, 16, 17, 18, 19, 20, 21, 22, 23, 24, 25], [], []⟩)], [], 12, false⟩
def l41_1 : Vx.T := (.ite (.cm .lss (.iv 0) (.ln 0)) (.rq (.cm .geq (.iv 0) (.n 0)) (.rq (.cm .lss (.iv 0) (.ln 1)) (.ite (.cm .neq (.ix 0 (.iv 0) 0) (.ix 1 (.iv 0) 0)) (.rt (.ret [] [(.t false)] [])) (.nxt [(.ar .add .i64 (.iv 0) (.n 1))] [(.bv 0)] [])))) (.brk 2 [(.iv 0)] [(.bv 0)] []))
def k41_2 : Vx.T := (.rq (.cm .eql (.iv 0) (.n 2)) (.ret [] [(.t true)] []))
def t41 : Vx.T := (.ite (.cm .neq (.ln 0) (.ln 1)) (.ret [] [(.t false)] []) (.lp [(.n 0)] [(.t false)] [] 1 1 0 l41_1 k41_2))
def a41 : Tab := []
theorem x41 : sxFn Try.prog (Tab.sig a41) (inlN Try.prog (Tab.sig a41) (hintOf hs) 6) H41 Try.f41 (Try.f41.body.getD .skip) s41 = t41 := by kernel_rfl
def F41 : Vx.Fn := Vx.Fd t41 (Tab.fn a41)
theorem g41 : Vx.Good Try.prog True_ 41 s41 F41 := good_of_tree hm hI Tab.Good.nil H41 hs 6 Try.func41 rfl (by kernel_rfl) x41
/-! trammel/trammelref06.Same -/
def s24 : Sig := ⟨[(.agg [(.i .i64), (.i .i64), (.i .i64), (.i .i64), (.lf [(.i .i64)])]), (.agg [(.i .i64), (.i .i64), (.i .i64), (.i .i64), (.lf [(.i .i64)])])], [(.v .b)]⟩
def H24 : Hint := ⟨[], [], [], 12, false⟩
def t24 : Vx.T := (.lb (.an (.cm .eql (.iv 0) (.iv 4)) (.cm .eql (.iv 1) (.iv 5))) (.lb (.an (.an (.bv 0) (.cm .eql (.iv 2) (.iv 6))) (.cm .eql (.iv 3) (.iv 7))) (.ite (.bv 1) (.call 41 [] [] [(.v 0), (.v 1)] 0 1 0 (.ret [] [(.bv 2)] [])) (.ret [] [(.t false)] []))))
def a24 : Tab := [⟨41, s41, F41⟩]
theorem x24 : sxFn Try.prog (Tab.sig a24) (inlN Try.prog (Tab.sig a24) (hintOf hs) 6) H24 Try.f24 (Try.f24.body.getD .skip) s24 = t24 := by kernel_rfl
theorem e24_41 : Tab.fn a24 41 = F41 := by kernel_rfl
def F24 : Vx.Fn := Vx.Fd t24 (Tab.fn a24)
theorem g24 : Vx.Good Try.prog True_ 24 s24 F24 := good_of_tree hm hI (gcons g41 Tab.Good.nil) H24 hs 6 Try.func24 rfl (by kernel_rfl) x24
/-! trammel/instr.Closed -/
def s12 : Sig := ⟨[(.v (.lf [(.i .i64), (.i .i64), (.i .i64), (.i .i64), (.sl [(.i .i64)])]))], [(.v .b)]⟩
def H12 : Hint := ⟨[], [(6, some ⟨[(2, false, [.b]), (13, false, [.i .i64])], [(0, 0, .lo 4 [.b])], [], [4, 5, 6, 7, 14, 15, 16, 17, 18, 19, 20, 21, 22, 23, 24, 25, 26, 27, 28, 29, 30, 31, 32, 33, 34], [], []⟩)], [], 12, false⟩
def l12_1 : Vx.T := (.ite (.cm .lss (.iv 0) (.ln 0)) (.rq (.cm .geq (.iv 0) (.n 0)) (.lst [(.cl 0 (.iv 0) 4)] (.call 16 [(.ix 0 (.iv 0) 0), (.ix 0 (.iv 0) 1), (.ix 0 (.iv 0) 2), (.ix 0 (.iv 0) 3)] [] [(.v 2)] 0 1 0 (.ite (.nt (.bv 1)) (.rt (.ret [] [(.t false)] [])) (.call 27 [(.ix 0 (.iv 0) 0), (.ix 0 (.iv 0) 1), (.ix 0 (.iv 0) 2), (.ix 0 (.iv 0) 3)] [] [(.v 1), (.v 2)] 1 1 1 (.ite (.cm .neq (.iv 1) (.n 0)) (.rt (.ret [] [(.t false)] [])) (.ite (.bv 2) (.rt (.ret [] [(.cm .eql (.iv 0) (.ar .sub .i64 (.ln 0) (.n 1)))] [])) (.nxt [(.ar .add .i64 (.iv 0) (.n 1))] [(.bv 0)] [(.v 3)])))))))) (.brk 2 [(.iv 0)] [(.bv 0)] [(.v 1)]))
def k12_2 : Vx.T := (.rq (.cm .eql (.iv 0) (.n 2)) (.ret [] [(.t false)] []))
def t12 : Vx.T := (.ite (.cm .gtr (.ln 0) (.n 2000)) (.ret [] [(.t false)] []) (.lp [(.n 0)] [(.t false)] [.nil] 1 1 1 l12_1 k12_2))
def a12 : Tab := [⟨16, s16, F16⟩, ⟨27, s27, F27⟩]
theorem x12 : sxFn Try.prog (Tab.sig a12) (inlN Try.prog (Tab.sig a12) (hintOf hs) 6) H12 Try.f12 (Try.f12.body.getD .skip) s12 = t12 := by kernel_rfl
theorem e12_16 : Tab.fn a12 16 = F16 := by kernel_rfl
theorem e12_27 : Tab.fn a12 27 = F27 := by kernel_rfl
def F12 : Vx.Fn := Vx.Fd t12 (Tab.fn a12)
theorem g12 : Vx.Good Try.prog True_ 12 s12 F12 := good_of_tree hm hI (gcons g16 (gcons g27 Tab.Good.nil)) H12 hs 6 Try.func12 rfl (by kernel_rfl) x12
/-! trammel/instr.PutBody -/
def s11 : Sig := ⟨[(.v (.lf [(.i .u8)])), (.v (.lf [(.i .i64), (.i .i64), (.i .i64), (.i .i64), (.sl [(.i .i64)])]))], [(.v (.lo 5 [(.i .u8)])), (.v (.i .i64))]⟩
def H11 : Hint := ⟨[], [(6, some ⟨[(6, false, [.lo 5 [(.i .u8)]]), (16, false, [.i .i64])], [], [], [8, 17, 18, 19, 20, 21, 22, 23], [], [2]⟩)], [], 12, false⟩
def l11_1 : Vx.T := (.ite (.cm .lss (.iv 0) (.ln 1)) (.rq (.cm .geq (.iv 0) (.n 0)) (.lst [(.cl 1 (.iv 0) 4)] (.call 29 [(.ix 1 (.iv 0) 0), (.ix 1 (.iv 0) 1), (.ix 1 (.iv 0) 2), (.ix 1 (.iv 0) 3)] [] [(.v 3), (.v 4)] 0 0 1 (.nxt [(.ar .add .i64 (.iv 0) (.n 1))] [] [(.v 5)])))) (.brk 2 [(.iv 0)] [] [(.v 3)]))
def k11_2 : Vx.T := (.rq (.cm .eql (.iv 0) (.n 2)) (.ret [(.n 0)] [] [(.v 3)]))
def t11 : Vx.T := (.call 12 [] [] [(.v 1)] 0 1 0 (.ite (.nt (.bv 0)) (.ret [(.n 2)] [] [.nil]) (.call 28 [] [] [(.v 0)] 0 0 1 (.lp [(.n 0)] [] [(.v 2)] 1 0 1 l11_1 k11_2))))
def a11 : Tab := [⟨12, s12, F12⟩, ⟨28, s28, F28⟩, ⟨29, s29, F29⟩]
theorem x11 : sxFn Try.prog (Tab.sig a11) (inlN Try.prog (Tab.sig a11) (hintOf hs) 6) H11 Try.f11 (Try.f11.body.getD .skip) s11 = t11 := by kernel_rfl
theorem e11_12 : Tab.fn a11 12 = F12 := by kernel_rfl
theorem e11_28 : Tab.fn a11 28 = F28 := by kernel_rfl
theorem e11_29 : Tab.fn a11 29 = F29 := by kernel_rfl
def F11 : Vx.Fn := Vx.Fd t11 (Tab.fn a11)
theorem g11 : Vx.Good Try.prog True_ 11 s11 F11 := good_of_tree hm hI (gcons g12 (gcons g28 (gcons g29 Tab.Good.nil))) H11 hs 6 Try.func11 rfl (by kernel_rfl) x11
/-! trammel/trammelref06.SameAll -/
def s22 : Sig := ⟨[(.v (.lf [(.i .i64), (.i .i64), (.i .i64), (.i .i64), (.sl [(.i .i64)])])), (.v (.lf [(.i .i64), (.i .i64), (.i .i64), (.i .i64), (.sl [(.i .i64)])]))], [(.v .b)]⟩
def H22 : Hint := ⟨[], [(5, some ⟨[(4, false, [.b]), (5, false, [.i .i64])], [], [], [11, 12, 13, 14, 15, 16, 17, 18, 19, 20, 21, 22, 23, 24, 25, 26], [], []⟩)], [], 12, false⟩
def l22_1 : Vx.T := (.ite (.cm .lss (.iv 0) (.ln 0)) (.rq (.cm .geq (.iv 0) (.n 0)) (.rq (.cm .lss (.iv 0) (.ln 1)) (.both (.lst [(.cl 0 (.iv 0) 4)] (.lst [(.cl 1 (.iv 0) 4)] (.call 24 [(.ix 0 (.iv 0) 0), (.ix 0 (.iv 0) 1), (.ix 0 (.iv 0) 2), (.ix 0 (.iv 0) 3), (.ix 1 (.iv 0) 0), (.ix 1 (.iv 0) 1), (.ix 1 (.iv 0) 2), (.ix 1 (.iv 0) 3)] [] [(.v 2), (.v 3)] 0 1 0 (.ite (.nt (.bv 1)) (.rt (.ret [] [(.t false)] [])) (.nxt [(.ar .add .i64 (.iv 0) (.n 1))] [(.bv 0)] []))))) (.lst [(.cl 1 (.iv 0) 4)] (.lst [(.cl 0 (.iv 0) 4)] (.call 24 [(.ix 0 (.iv 0) 0), (.ix 0 (.iv 0) 1), (.ix 0 (.iv 0) 2), (.ix 0 (.iv 0) 3), (.ix 1 (.iv 0) 0), (.ix 1 (.iv 0) 1), (.ix 1 (.iv 0) 2), (.ix 1 (.iv 0) 3)] [] [(.v 3), (.v 2)] 0 1 0 (.ite (.nt (.bv 1)) (.rt (.ret [] [(.t false)] [])) (.nxt [(.ar .add .i64 (.iv 0) (.n 1))] [(.bv 0)] [])))))))) (.brk 2 [(.iv 0)] [(.bv 0)] []))
def k22_2 : Vx.T := (.rq (.cm .eql (.iv 0) (.n 2)) (.ret [] [(.t true)] []))
def t22 : Vx.T := (.ite (.cm .neq (.ln 0) (.ln 1)) (.ret [] [(.t false)] []) (.lp [(.n 0)] [(.t false)] [] 1 1 0 l22_1 k22_2))
def a22 : Tab := [⟨24, s24, F24⟩]
theorem x22 : sxFn Try.prog (Tab.sig a22) (inlN Try.prog (Tab.sig a22) (hintOf hs) 6) H22 Try.f22 (Try.f22.body.getD .skip) s22 = t22 := by kernel_rfl
theorem e22_24 : Tab.fn a22 24 = F24 := by kernel_rfl
def F22 : Vx.Fn := Vx.Fd t22 (Tab.fn a22)
theorem g22 : Vx.Good Try.prog True_ 22 s22 F22 := good_of_tree hm hI (gcons g24 Tab.Good.nil) H22 hs 6 Try.func22 rfl (by kernel_rfl) x22
/-! trammel/trammellaw06.InstrBack -/
def s6 : Sig := ⟨[(.agg [(.i .i64), (.i .i64), (.i .i64), (.i .i64), (.lf [(.i .i64)])]), (.v (.lf [(.i .i64), (.i .i64), (.i .i64), (.i .i64), (.sl [(.i .i64)])])), (.v (.lf [(.i .u8)]))], [(.v .b)]⟩
def H6 : Hint := ⟨[], [], [], 12, false⟩
def t6 : Vx.T := (.call 8 [] [] [] 0 1 0 (.ite (.nt (.bv 0)) (.ret [] [(.t false)] []) (.rq (.an (.cm .leq (.n 0) (.mn (.ln 2) (.n 1000))) (.cm .leq (.mn (.ln 2) (.n 1000)) (.ln 2))) (.lst [(.cut (.v 2) (.n 0) (.mn (.ln 2) (.n 1000)))] (.call 10 [] [] [(.v 1)] 0 1 0 (.ite (.oo (.nt (.bv 1)) (.cm .gtr (.ln 0) (.n 100))) (.ret [] [(.t true)] []) (.call 14 [(.iv 0), (.iv 1), (.iv 2), (.iv 3)] [] [.nil, (.v 0)] 1 0 1 (.ite (.cm .eql (.iv 4) (.n 0)) (.rq (.an (.cm .leq (.ln 4) (.n 17592186044416)) (.cm .leq (.ln 3) (.n 17592186044416))) (.lst [(.ap (.v 4) (.v 3))] (.call 23 [] [] [(.v 5)] 6 0 1 (.lb (.oo (.cm .neq (.iv 10) (.n 0)) (.cm .neq (.iv 9) (.ln 4))) (.ite (.nt (.bv 2)) (.call 24 [(.iv 0), (.iv 1), (.iv 2), (.iv 3), (.iv 5), (.iv 6), (.iv 7), (.iv 8)] [] [(.v 0), (.v 6)] 0 1 0 (.ite (.nt (.bv 3)) (.ret [] [(.t false)] []) (.call 11 [] [] [.nil, (.v 1)] 1 0 1 (.ite (.cm .neq (.iv 11) (.n 0)) (.ret [] [(.cm .eql (.ln 7) (.n 0))] []) (.rq (.an (.cm .leq (.ln 7) (.n 17592186044416)) (.cm .leq (.ln 3) (.n 17592186044416))) (.lst [(.ap (.v 7) (.v 3))] (.call 9 [] [] [(.v 8)] 2 0 1 (.lb (.an (.cm .eql (.iv 13) (.n 0)) (.cm .eql (.iv 12) (.ln 7))) (.ite (.bv 4) (.call 22 [] [] [(.v 1), (.v 9)] 0 1 0 (.ret [] [(.bv 5)] [])) (.ret [] [(.t false)] [])))))))))) (.ret [] [(.t false)] [])))))) (.call 11 [] [] [.nil, (.v 1)] 1 0 1 (.ite (.cm .neq (.iv 5) (.n 0)) (.ret [] [(.cm .eql (.ln 5) (.n 0))] []) (.rq (.an (.cm .leq (.ln 5) (.n 17592186044416)) (.cm .leq (.ln 3) (.n 17592186044416))) (.lst [(.ap (.v 5) (.v 3))] (.call 9 [] [] [(.v 6)] 2 0 1 (.lb (.an (.cm .eql (.iv 7) (.n 0)) (.cm .eql (.iv 6) (.ln 5))) (.ite (.bv 2) (.call 22 [] [] [(.v 1), (.v 7)] 0 1 0 (.ret [] [(.bv 3)] [])) (.ret [] [(.t false)] []))))))))))))))))
def a6 : Tab := [⟨8, s8, F8⟩, ⟨10, s10, F10⟩, ⟨14, s14, F14⟩, ⟨23, s23, F23⟩, ⟨24, s24, F24⟩, ⟨11, s11, F11⟩, ⟨9, s9, F9⟩, ⟨22, s22, F22⟩]
theorem x6 : sxFn Try.prog (Tab.sig a6) (inlN Try.prog (Tab.sig a6) (hintOf hs) 6) H6 Try.f6 (Try.f6.body.getD .skip) s6 = t6 := by kernel_rfl
theorem e6_8 : Tab.fn a6 8 = F8 := by kernel_rfl
theorem e6_10 : Tab.fn a6 10 = F10 := by kernel_rfl
theorem e6_14 : Tab.fn a6 14 = F14 := by kernel_rfl
theorem e6_23 : Tab.fn a6 23 = F23 := by kernel_rfl
theorem e6_24 : Tab.fn a6 24 = F24 := by kernel_rfl
theorem e6_11 : Tab.fn a6 11 = F11 := by kernel_rfl
theorem e6_9 : Tab.fn a6 9 = F9 := by kernel_rfl
theorem e6_22 : Tab.fn a6 22 = F22 := by kernel_rfl
def F6 : Vx.Fn := Vx.Fd t6 (Tab.fn a6)
theorem g6 : Vx.Good Try.prog True_ 6 s6 F6 := good_of_tree hm hI (gcons g8 (gcons g10 (gcons g14 (gcons g23 (gcons g24 (gcons g11 (gcons g9 (gcons g22 Tab.Good.nil)))))))) H6 hs 6 Try.func6 rfl (by kernel_rfl) x6
end Go.Proofs.Ytmfjapphmmlppaa.XInstrBack

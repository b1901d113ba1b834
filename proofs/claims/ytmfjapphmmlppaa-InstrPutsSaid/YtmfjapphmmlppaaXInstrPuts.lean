/-
  The trees of tests of the functions that InstrPuts reaches, that each is its code's, and what each function answers.
-/
import Derived.Test.YtmfjapphmmlppaaVx
import Derived.Test.YtmfjapphmmlppaaProg
namespace Go.Proofs.Ytmfjapphmmlppaa.XInstrPuts
open Go.Proofs.Ytmfjapphmmlppaa.Vx
set_option maxRecDepth 100000
def True_ : World → Prop := fun _ => True
theorem hI : ∀ (M : Nat → Prop) (w w' : World), True_ w → Vx.Bel M w w' → True_ w' := fun _ _ _ _ _ => trivial
theorem hm : Try.prog.follows .mixedOrders = true := by kernel_rfl
theorem gcons {f : Nat} {s : Sig} {F : Vx.Fn} {r : Tab} (h : Vx.Good Try.prog True_ f s F) (t : Tab.Good Try.prog True_ r) : Tab.Good Try.prog True_ (⟨f, s, F⟩ :: r) := Tab.Good.cons (e := ⟨f, s, F⟩) h t
def hs : List (Nat × Hint) := [(59, ⟨[], [], [], 12, true⟩), (60, ⟨[], [], [], 12, true⟩), (71, ⟨[], [(3, some ⟨[(4, false, [.i .i64]), (8, false, [.i .i64])], [], [], [5, 9, 10, 11, 12, 13, 14, 15, 16, 17, 18], [], []⟩)], [], 12, true⟩)]
/-! (*trammel/instr.reader).fail -/
def s26 : Sig := ⟨[(.bx [(.lf [(.i .u8)]), (.i .i64), (.i .i64)]), (.v (.i .i64))], []⟩
def H26 : Hint := ⟨[], [], [], 12, false⟩
def t26 : Vx.T := (.ite (.cm .eql (.iv 1) (.n 0)) (.ret [(.iv 0), (.iv 2)] [] [(.v 0)]) (.ret [(.iv 0), (.iv 1)] [] [(.v 0)]))
def a26 : Tab := []
theorem x26 : sxFn Try.prog (Tab.sig a26) (inlN Try.prog (Tab.sig a26) (hintOf hs) 6) H26 Try.f26 (Try.f26.body.getD .skip) s26 = t26 := by kernel_rfl
def F26 : Vx.Fn := Vx.Fd t26 (Tab.fn a26)
theorem g26 : Vx.Good Try.prog True_ 26 s26 F26 := good_of_tree hm hI Tab.Good.nil H26 hs 6 Try.func26 rfl (by kernel_rfl) x26
/-! (*trammel/instr.reader).byte -/
def s61 : Sig := ⟨[(.bx [(.lf [(.i .u8)]), (.i .i64), (.i .i64)])], [(.v (.i .i64))]⟩
def H61 : Hint := ⟨[], [], [], 12, false⟩
def t61 : Vx.T := (.ite (.cm .neq (.iv 1) (.n 0)) (.ret [(.n 0), (.iv 0), (.iv 1)] [] [(.v 0)]) (.ite (.cm .geq (.iv 0) (.ln 0)) (.call 26 [(.iv 0), (.iv 1), (.n 1)] [] [(.v 0)] 2 0 1 (.ret [(.n 0), (.iv 2), (.iv 3)] [] [(.v 1)])) (.rq (.an (.cm .geq (.ar .sub .i64 (.ar .add .i64 (.iv 0) (.n 1)) (.n 1)) (.n 0)) (.cm .lss (.ar .sub .i64 (.ar .add .i64 (.iv 0) (.n 1)) (.n 1)) (.ln 0))) (.rq (.an (.cm .geq (.ar .sub .i64 (.ar .add .i64 (.iv 0) (.n 1)) (.n 1)) (.n 0)) (.cm .lss (.ar .sub .i64 (.ar .add .i64 (.iv 0) (.n 1)) (.n 1)) (.ln 0))) (.li (.cv .i64 (.ix 0 (.ar .sub .i64 (.ar .add .i64 (.iv 0) (.n 1)) (.n 1)) 0)) (.ret [(.iv 2), (.ar .add .i64 (.iv 0) (.n 1)), (.iv 1)] [] [(.v 0)]))))))
def a61 : Tab := [⟨26, s26, F26⟩]
theorem x61 : sxFn Try.prog (Tab.sig a61) (inlN Try.prog (Tab.sig a61) (hintOf hs) 6) H61 Try.f61 (Try.f61.body.getD .skip) s61 = t61 := by kernel_rfl
theorem e61_26 : Tab.fn a61 26 = F26 := by kernel_rfl
def F61 : Vx.Fn := Vx.Fd t61 (Tab.fn a61)
theorem g61 : Vx.Good Try.prog True_ 61 s61 F61 := good_of_tree hm hI (gcons g26 Tab.Good.nil) H61 hs 6 Try.func61 rfl (by kernel_rfl) x61
/-! trammel/leb.most -/
def s85 : Sig := ⟨[(.v (.i .i64))], [(.v (.i .i64))]⟩
def H85 : Hint := ⟨[], [], [], 12, false⟩
def t85 : Vx.T := (.ret [(.ar .quo .i64 (.ar .add .i64 (.iv 0) (.n 6)) (.n 7))] [] [])
def a85 : Tab := []
theorem x85 : sxFn Try.prog (Tab.sig a85) (inlN Try.prog (Tab.sig a85) (hintOf hs) 6) H85 Try.f85 (Try.f85.body.getD .skip) s85 = t85 := by kernel_rfl
def F85 : Vx.Fn := Vx.Fd t85 (Tab.fn a85)
theorem g85 : Vx.Good Try.prog True_ 85 s85 F85 := good_of_tree hm hI Tab.Good.nil H85 hs 6 Try.func85 rfl (by kernel_rfl) x85
/-! trammel/leb.raw -/
def s73 : Sig := ⟨[(.v (.lf [(.i .u8)])), (.v (.i .i64))], [(.v (.i .u64)), (.v (.i .u8)), (.v (.i .i64)), (.v (.i .i64))]⟩
def H73 : Hint := ⟨[], [(6, some ⟨[(4, false, [.i .u64]), (5, false, [.i .u8]), (6, false, [.i .i64]), (7, false, [.i .i64]), (8, false, [.i .u64]), (19, false, [.i .i64])], [], [], [9, 10, 20, 21, 22, 23, 24, 25, 26, 27, 28, 29, 30, 31, 32, 33, 34, 35, 36, 37, 38, 39, 40, 41, 42, 43, 44], [], []⟩)], [], 12, false⟩
def l73_1 : Vx.T := (.ite (.cm .lss (.iv 6) (.ln 0)) (.rq (.cm .geq (.iv 6) (.n 0)) (.rq (.cm .geq (.cv .u64 (.ar .mul .i64 (.n 7) (.iv 6))) (.n 0)) (.li (.ar .shl .u64 (.cv .u64 (.ar .and .u8 (.ix 0 (.iv 6) 0) (.n 127))) (.cv .u64 (.ar .mul .i64 (.n 7) (.iv 6)))) (.ite (.cm .lss (.ix 0 (.iv 6) 0) (.n 128)) (.rt (.ret [(.ar .or .u64 (.iv 5) (.iv 7)), (.ix 0 (.iv 6) 0), (.ar .add .i64 (.iv 6) (.n 1)), (.n 0)] [] [])) (.call 85 [(.iv 0)] [] [] 1 0 0 (.ite (.cm .eql (.ar .add .i64 (.iv 6) (.n 1)) (.iv 8)) (.rt (.ret [(.n 0), (.n 0), (.n 0), (.n 2)] [] [])) (.nxt [(.iv 1), (.iv 2), (.iv 3), (.iv 4), (.ar .or .u64 (.iv 5) (.iv 7)), (.ar .add .i64 (.iv 6) (.n 1))] [] []))))))) (.brk 2 [(.iv 1), (.iv 2), (.iv 3), (.iv 4), (.iv 5), (.iv 6)] [] []))
def k73_2 : Vx.T := (.rq (.cm .eql (.iv 1) (.n 2)) (.ret [(.n 0), (.n 0), (.n 0), (.n 1)] [] []))
def t73 : Vx.T := (.lb (.oo (.cm .lss (.iv 0) (.n 1)) (.cm .gtr (.iv 0) (.n 64))) (.ite (.bv 0) (.ret [(.n 0), (.n 0), (.n 0), (.n 5)] [] []) (.lp [(.n 0), (.n 0), (.n 0), (.n 0), (.n 0), (.n 0)] [] [] 6 0 0 l73_1 k73_2)))
def a73 : Tab := [⟨85, s85, F85⟩]
theorem x73 : sxFn Try.prog (Tab.sig a73) (inlN Try.prog (Tab.sig a73) (hintOf hs) 6) H73 Try.f73 (Try.f73.body.getD .skip) s73 = t73 := by kernel_rfl
theorem e73_85 : Tab.fn a73 85 = F85 := by kernel_rfl
def F73 : Vx.Fn := Vx.Fd t73 (Tab.fn a73)
theorem g73 : Vx.Good Try.prog True_ 73 s73 F73 := good_of_tree hm hI (gcons g85 Tab.Good.nil) H73 hs 6 Try.func73 rfl (by kernel_rfl) x73
/-! trammel/leb.U -/
def s63 : Sig := ⟨[(.v (.lf [(.i .u8)])), (.v (.i .i64))], [(.v (.i .u64)), (.v (.i .i64)), (.v (.i .i64))]⟩
def H63 : Hint := ⟨[], [], [], 12, false⟩
def t63 : Vx.T := (.call 73 [(.iv 0)] [] [(.v 0)] 4 0 0 (.ite (.cm .neq (.iv 4) (.n 0)) (.ret [(.n 0), (.n 0), (.iv 4)] [] []) (.li (.ar .sub .i64 (.iv 0) (.ar .mul .i64 (.n 7) (.ar .sub .i64 (.iv 3) (.n 1)))) (.rq (.oo (.nt (.cm .lss (.iv 5) (.n 7))) (.cm .geq (.cv .u64 (.iv 5)) (.n 0))) (.lb (.an (.cm .lss (.iv 5) (.n 7)) (.cm .neq (.ar .shr .u8 (.iv 2) (.cv .u64 (.iv 5))) (.n 0))) (.ite (.bv 0) (.ret [(.n 0), (.n 0), (.n 2)] [] []) (.ret [(.iv 1), (.iv 3), (.n 0)] [] [])))))))
def a63 : Tab := [⟨73, s73, F73⟩]
theorem x63 : sxFn Try.prog (Tab.sig a63) (inlN Try.prog (Tab.sig a63) (hintOf hs) 6) H63 Try.f63 (Try.f63.body.getD .skip) s63 = t63 := by kernel_rfl
theorem e63_73 : Tab.fn a63 73 = F73 := by kernel_rfl
def F63 : Vx.Fn := Vx.Fd t63 (Tab.fn a63)
theorem g63 : Vx.Good Try.prog True_ 63 s63 F63 := good_of_tree hm hI (gcons g73 Tab.Good.nil) H63 hs 6 Try.func63 rfl (by kernel_rfl) x63
/-! (*trammel/instr.reader).u -/
def s44 : Sig := ⟨[(.bx [(.lf [(.i .u8)]), (.i .i64), (.i .i64)])], [(.v (.i .i64))]⟩
def H44 : Hint := ⟨[], [], [], 12, false⟩
def t44 : Vx.T := (.ite (.cm .neq (.iv 1) (.n 0)) (.ret [(.n 0), (.iv 0), (.iv 1)] [] [(.v 0)]) (.rq (.an (.cm .leq (.n 0) (.iv 0)) (.an (.cm .leq (.iv 0) (.ln 0)) (.cm .leq (.ln 0) (.ln 0)))) (.lst [(.cut (.v 0) (.iv 0) (.ln 0))] (.call 63 [(.n 32)] [] [(.v 1)] 3 0 0 (.call 26 [(.iv 0), (.iv 1), (.iv 4)] [] [(.v 0)] 2 0 1 (.ret [(.cv .i64 (.iv 2)), (.ar .add .i64 (.iv 5) (.iv 3)), (.iv 6)] [] [(.v 2)]))))))
def a44 : Tab := [⟨63, s63, F63⟩, ⟨26, s26, F26⟩]
theorem x44 : sxFn Try.prog (Tab.sig a44) (inlN Try.prog (Tab.sig a44) (hintOf hs) 6) H44 Try.f44 (Try.f44.body.getD .skip) s44 = t44 := by kernel_rfl
theorem e44_63 : Tab.fn a44 63 = F63 := by kernel_rfl
theorem e44_26 : Tab.fn a44 26 = F26 := by kernel_rfl
def F44 : Vx.Fn := Vx.Fd t44 (Tab.fn a44)
theorem g44 : Vx.Good Try.prog True_ 44 s44 F44 := good_of_tree hm hI (gcons g63 (gcons g26 Tab.Good.nil)) H44 hs 6 Try.func44 rfl (by kernel_rfl) x44
/-! trammel/pack.access -/
def s70 : Sig := ⟨[(.v (.i .i64))], [(.v (.i .i64)), (.v (.i .i64)), (.v .b), (.v .b), (.v .b)]⟩
def H70 : Hint := ⟨[], [], [], 12, false⟩
def b70_1 : Vx.T := (.ite (.cm .eql (.iv 0) (.n 54)) (.ret [(.n 127), (.n 4)] [(.t false), (.t true), (.t true)] []) (.ite (.cm .eql (.iv 0) (.n 55)) (.ret [(.n 126), (.n 8)] [(.t false), (.t true), (.t true)] []) (.ite (.cm .eql (.iv 0) (.n 58)) (.ret [(.n 127), (.n 1)] [(.t false), (.t true), (.t true)] []) (.ite (.cm .eql (.iv 0) (.n 59)) (.ret [(.n 127), (.n 2)] [(.t false), (.t true), (.t true)] []) (.ite (.cm .eql (.iv 0) (.n 60)) (.ret [(.n 126), (.n 1)] [(.t false), (.t true), (.t true)] []) (.ite (.cm .eql (.iv 0) (.n 61)) (.ret [(.n 126), (.n 2)] [(.t false), (.t true), (.t true)] []) (.ite (.cm .eql (.iv 0) (.n 62)) (.ret [(.n 126), (.n 4)] [(.t false), (.t true), (.t true)] []) (.ret [(.n 0), (.n 0)] [(.t false), (.t false), (.t false)] []))))))))
def b70_2 : Vx.T := (.ite (.cm .eql (.iv 0) (.n 52)) (.ite (.cm .eql (.iv 0) (.n 52)) (.ret [(.n 126), (.n 4)] [(.cm .eql (.iv 0) (.n 52)), (.t false), (.t true)] []) b70_1) (.ite (.cm .eql (.iv 0) (.n 53)) (.ret [(.n 126), (.n 4)] [(.cm .eql (.iv 0) (.n 52)), (.t false), (.t true)] []) b70_1))
def b70_3 : Vx.T := (.ite (.cm .eql (.iv 0) (.n 50)) (.ite (.cm .eql (.iv 0) (.n 50)) (.ret [(.n 126), (.n 2)] [(.cm .eql (.iv 0) (.n 50)), (.t false), (.t true)] []) b70_2) (.ite (.cm .eql (.iv 0) (.n 51)) (.ret [(.n 126), (.n 2)] [(.cm .eql (.iv 0) (.n 50)), (.t false), (.t true)] []) b70_2))
def b70_4 : Vx.T := (.ite (.cm .eql (.iv 0) (.n 48)) (.ite (.cm .eql (.iv 0) (.n 48)) (.ret [(.n 126), (.n 1)] [(.cm .eql (.iv 0) (.n 48)), (.t false), (.t true)] []) b70_3) (.ite (.cm .eql (.iv 0) (.n 49)) (.ret [(.n 126), (.n 1)] [(.cm .eql (.iv 0) (.n 48)), (.t false), (.t true)] []) b70_3))
def b70_5 : Vx.T := (.ite (.cm .eql (.iv 0) (.n 46)) (.ite (.cm .eql (.iv 0) (.n 46)) (.ret [(.n 127), (.n 2)] [(.cm .eql (.iv 0) (.n 46)), (.t false), (.t true)] []) b70_4) (.ite (.cm .eql (.iv 0) (.n 47)) (.ret [(.n 127), (.n 2)] [(.cm .eql (.iv 0) (.n 46)), (.t false), (.t true)] []) b70_4))
def t70 : Vx.T := (.ite (.cm .eql (.iv 0) (.n 40)) (.ret [(.n 127), (.n 4)] [(.t false), (.t false), (.t true)] []) (.ite (.cm .eql (.iv 0) (.n 41)) (.ret [(.n 126), (.n 8)] [(.t false), (.t false), (.t true)] []) (.ite (.cm .eql (.iv 0) (.n 44)) (.ite (.cm .eql (.iv 0) (.n 44)) (.ret [(.n 127), (.n 1)] [(.cm .eql (.iv 0) (.n 44)), (.t false), (.t true)] []) b70_5) (.ite (.cm .eql (.iv 0) (.n 45)) (.ret [(.n 127), (.n 1)] [(.cm .eql (.iv 0) (.n 44)), (.t false), (.t true)] []) b70_5))))
def a70 : Tab := []
theorem x70 : sxFn Try.prog (Tab.sig a70) (inlN Try.prog (Tab.sig a70) (hintOf hs) 6) H70 Try.f70 (Try.f70.body.getD .skip) s70 = t70 := by kernel_rfl
def F70 : Vx.Fn := Vx.Fd t70 (Tab.fn a70)
theorem g70 : Vx.Good Try.prog True_ 70 s70 F70 := good_of_tree hm hI Tab.Good.nil H70 hs 6 Try.func70 rfl (by kernel_rfl) x70
/-! trammel/pack.Access -/
def s55 : Sig := ⟨[(.v (.i .i64))], [(.v (.i .i64)), (.v (.i .i64)), (.v .b), (.v .b)]⟩
def H55 : Hint := ⟨[], [], [], 12, false⟩
def t55 : Vx.T := (.call 70 [(.iv 0)] [] [] 2 3 0 (.ret [(.iv 1), (.iv 2)] [(.bv 1), (.bv 2)] []))
def a55 : Tab := [⟨70, s70, F70⟩]
theorem x55 : sxFn Try.prog (Tab.sig a55) (inlN Try.prog (Tab.sig a55) (hintOf hs) 6) H55 Try.f55 (Try.f55.body.getD .skip) s55 = t55 := by kernel_rfl
theorem e55_70 : Tab.fn a55 70 = F70 := by kernel_rfl
def F55 : Vx.Fn := Vx.Fd t55 (Tab.fn a55)
theorem g55 : Vx.Good Try.prog True_ 55 s55 F55 := good_of_tree hm hI (gcons g70 Tab.Good.nil) H55 hs 6 Try.func55 rfl (by kernel_rfl) x55
/-! trammel/num.Types -/
def s56 : Sig := ⟨[(.v (.i .i64))], [(.v (.lo 3 [(.i .i64)])), (.v (.i .i64)), (.v .b)]⟩
def H56 : Hint := ⟨[], [], [], 12, false⟩
def b56_1 : Vx.T := (.ite (.bv 2) (.lst [(.els [[(.i (.n 127))], [(.i (.n 127))]])] (.ret [(.n 127)] [(.t true)] [(.v 0)])) (.lb (.an (.cm .geq (.iv 0) (.n 81)) (.cm .leq (.iv 0) (.n 90))) (.ite (.bv 3) (.lst [(.els [[(.i (.n 126))], [(.i (.n 126))]])] (.ret [(.n 127)] [(.t true)] [(.v 0)])) (.lb (.an (.cm .geq (.iv 0) (.n 124)) (.cm .leq (.iv 0) (.n 138))) (.ite (.bv 4) (.lst [(.els [[(.i (.n 126))], [(.i (.n 126))]])] (.ret [(.n 126)] [(.t true)] [(.v 0)])) (.ret [(.n 0)] [(.t false)] [.nil]))))))
def b56_2 : Vx.T := (.lb (.an (.cm .geq (.iv 0) (.n 70)) (.cm .leq (.iv 0) (.n 79))) (.ite (.bv 1) (.ite (.bv 1) (.lst [(.els [[(.i (.n 127))], [(.i (.n 127))]])] (.ret [(.n 127)] [(.t true)] [(.v 0)])) (.lb (.an (.cm .geq (.iv 0) (.n 81)) (.cm .leq (.iv 0) (.n 90))) (.ite (.bv 2) (.lst [(.els [[(.i (.n 126))], [(.i (.n 126))]])] (.ret [(.n 127)] [(.t true)] [(.v 0)])) (.lb (.an (.cm .geq (.iv 0) (.n 124)) (.cm .leq (.iv 0) (.n 138))) (.ite (.bv 3) (.lst [(.els [[(.i (.n 126))], [(.i (.n 126))]])] (.ret [(.n 126)] [(.t true)] [(.v 0)])) (.ret [(.n 0)] [(.t false)] [.nil])))))) (.lb (.an (.cm .geq (.iv 0) (.n 106)) (.cm .leq (.iv 0) (.n 120))) b56_1)))
def b56_3 : Vx.T := (.ite (.bv 3) (.lst [(.els [[(.i (.n 127))], [(.i (.n 127))]])] (.ret [(.n 127)] [(.t true)] [(.v 0)])) (.lb (.an (.cm .geq (.iv 0) (.n 81)) (.cm .leq (.iv 0) (.n 90))) (.ite (.bv 4) (.lst [(.els [[(.i (.n 126))], [(.i (.n 126))]])] (.ret [(.n 127)] [(.t true)] [(.v 0)])) (.lb (.an (.cm .geq (.iv 0) (.n 124)) (.cm .leq (.iv 0) (.n 138))) (.ite (.bv 5) (.lst [(.els [[(.i (.n 126))], [(.i (.n 126))]])] (.ret [(.n 126)] [(.t true)] [(.v 0)])) (.ret [(.n 0)] [(.t false)] [.nil]))))))
def b56_4 : Vx.T := (.lb (.an (.cm .geq (.iv 0) (.n 70)) (.cm .leq (.iv 0) (.n 79))) (.ite (.bv 2) b56_1 (.lb (.an (.cm .geq (.iv 0) (.n 106)) (.cm .leq (.iv 0) (.n 120))) b56_3)))
def b56_5 : Vx.T := (.ite (.bv 1) (.lst [(.els [[(.i (.n 126))]])] (.ret [(.n 126)] [(.t true)] [(.v 0)])) (.ite (.cm .eql (.iv 0) (.n 172)) (.ite (.cm .eql (.iv 0) (.n 172)) (.lst [(.els [[(.i (.n 127))]])] (.ret [(.n 126)] [(.t true)] [(.v 0)])) b56_4) (.ite (.cm .eql (.iv 0) (.n 173)) (.lst [(.els [[(.i (.n 127))]])] (.ret [(.n 126)] [(.t true)] [(.v 0)])) b56_4)))
def b56_6 : Vx.T := (.lb (.an (.cm .geq (.iv 0) (.n 121)) (.cm .leq (.iv 0) (.n 123))) (.ite (.bv 0) (.ite (.bv 0) (.lst [(.els [[(.i (.n 126))]])] (.ret [(.n 126)] [(.t true)] [(.v 0)])) (.ite (.cm .eql (.iv 0) (.n 172)) (.ite (.cm .eql (.iv 0) (.n 172)) (.lst [(.els [[(.i (.n 127))]])] (.ret [(.n 126)] [(.t true)] [(.v 0)])) b56_2) (.ite (.cm .eql (.iv 0) (.n 173)) (.lst [(.els [[(.i (.n 127))]])] (.ret [(.n 126)] [(.t true)] [(.v 0)])) b56_2))) (.lb (.an (.cm .geq (.iv 0) (.n 194)) (.cm .leq (.iv 0) (.n 196))) b56_5)))
def b56_7 : Vx.T := (.lb (.an (.cm .geq (.iv 0) (.n 70)) (.cm .leq (.iv 0) (.n 79))) (.ite (.bv 3) b56_3 (.lb (.an (.cm .geq (.iv 0) (.n 106)) (.cm .leq (.iv 0) (.n 120))) (.ite (.bv 4) (.lst [(.els [[(.i (.n 127))], [(.i (.n 127))]])] (.ret [(.n 127)] [(.t true)] [(.v 0)])) (.lb (.an (.cm .geq (.iv 0) (.n 81)) (.cm .leq (.iv 0) (.n 90))) (.ite (.bv 5) (.lst [(.els [[(.i (.n 126))], [(.i (.n 126))]])] (.ret [(.n 127)] [(.t true)] [(.v 0)])) (.lb (.an (.cm .geq (.iv 0) (.n 124)) (.cm .leq (.iv 0) (.n 138))) (.ite (.bv 6) (.lst [(.els [[(.i (.n 126))], [(.i (.n 126))]])] (.ret [(.n 126)] [(.t true)] [(.v 0)])) (.ret [(.n 0)] [(.t false)] [.nil])))))))))
def b56_8 : Vx.T := (.lb (.an (.cm .geq (.iv 0) (.n 121)) (.cm .leq (.iv 0) (.n 123))) (.ite (.bv 1) b56_5 (.lb (.an (.cm .geq (.iv 0) (.n 194)) (.cm .leq (.iv 0) (.n 196))) (.ite (.bv 2) (.lst [(.els [[(.i (.n 126))]])] (.ret [(.n 126)] [(.t true)] [(.v 0)])) (.ite (.cm .eql (.iv 0) (.n 172)) (.ite (.cm .eql (.iv 0) (.n 172)) (.lst [(.els [[(.i (.n 127))]])] (.ret [(.n 126)] [(.t true)] [(.v 0)])) b56_7) (.ite (.cm .eql (.iv 0) (.n 173)) (.lst [(.els [[(.i (.n 127))]])] (.ret [(.n 126)] [(.t true)] [(.v 0)])) b56_7))))))
def b56_9 : Vx.T := (.ite (.cm .eql (.iv 0) (.n 80)) (.ite (.cm .eql (.iv 0) (.n 80)) (.lst [(.els [[(.i (.n 126))]])] (.ret [(.n 127)] [(.t true)] [(.v 0)])) b56_8) (.ite (.cm .eql (.iv 0) (.n 167)) (.lst [(.els [[(.i (.n 126))]])] (.ret [(.n 127)] [(.t true)] [(.v 0)])) b56_8))
def t56 : Vx.T := (.ite (.cm .eql (.iv 0) (.n 69)) (.ite (.cm .eql (.iv 0) (.n 69)) (.lst [(.els [[(.i (.n 127))]])] (.ret [(.n 127)] [(.t true)] [(.v 0)])) (.ite (.cm .eql (.iv 0) (.n 80)) (.ite (.cm .eql (.iv 0) (.n 80)) (.lst [(.els [[(.i (.n 126))]])] (.ret [(.n 127)] [(.t true)] [(.v 0)])) b56_6) (.ite (.cm .eql (.iv 0) (.n 167)) (.lst [(.els [[(.i (.n 126))]])] (.ret [(.n 127)] [(.t true)] [(.v 0)])) b56_6))) (.lb (.an (.cm .geq (.iv 0) (.n 103)) (.cm .leq (.iv 0) (.n 105))) (.ite (.bv 0) (.ite (.bv 0) (.lst [(.els [[(.i (.n 127))]])] (.ret [(.n 127)] [(.t true)] [(.v 0)])) b56_9) (.ite (.cm .eql (.iv 0) (.n 192)) (.ite (.cm .eql (.iv 0) (.n 192)) (.lst [(.els [[(.i (.n 127))]])] (.ret [(.n 127)] [(.t true)] [(.v 0)])) b56_9) (.ite (.cm .eql (.iv 0) (.n 193)) (.lst [(.els [[(.i (.n 127))]])] (.ret [(.n 127)] [(.t true)] [(.v 0)])) b56_9)))))
def a56 : Tab := []
theorem x56 : sxFn Try.prog (Tab.sig a56) (inlN Try.prog (Tab.sig a56) (hintOf hs) 6) H56 Try.f56 (Try.f56.body.getD .skip) s56 = t56 := by kernel_rfl
def F56 : Vx.Fn := Vx.Fd t56 (Tab.fn a56)
theorem g56 : Vx.Good Try.prog True_ 56 s56 F56 := good_of_tree hm hI Tab.Good.nil H56 hs 6 Try.func56 rfl (by kernel_rfl) x56
/-! trammel/instr.between -/
def s57 : Sig := ⟨[(.v (.i .i64)), (.v (.i .i64)), (.v (.i .i64))], [(.v .b)]⟩
def H57 : Hint := ⟨[], [], [], 12, false⟩
def t57 : Vx.T := (.lb (.an (.cm .geq (.iv 0) (.iv 1)) (.cm .leq (.iv 0) (.iv 2))) (.ret [] [(.bv 0)] []))
def a57 : Tab := []
theorem x57 : sxFn Try.prog (Tab.sig a57) (inlN Try.prog (Tab.sig a57) (hintOf hs) 6) H57 Try.f57 (Try.f57.body.getD .skip) s57 = t57 := by kernel_rfl
def F57 : Vx.Fn := Vx.Fd t57 (Tab.fn a57)
theorem g57 : Vx.Good Try.prog True_ 57 s57 F57 := good_of_tree hm hI Tab.Good.nil H57 hs 6 Try.func57 rfl (by kernel_rfl) x57
/-! trammel/instr.form -/
def s33 : Sig := ⟨[(.v (.i .i64))], [(.v (.i .i64))]⟩
def H33 : Hint := ⟨[], [(100004, some ⟨[(11, false, [.b])], [], [], [13, 14, 15, 16, 17, 18], [], []⟩), (100005, some ⟨[(11, false, [.b])], [], [], [14, 15, 16, 17, 18], [], []⟩), (100006, some ⟨[(11, false, [.b])], [], [], [15, 16, 17, 18], [], []⟩), (100007, some ⟨[(11, false, [.b])], [], [], [16, 17, 18], [], []⟩), (100008, some ⟨[(11, false, [.b])], [], [], [17, 18], [], []⟩), (100009, some ⟨[(11, false, [.b])], [], [], [18], [], []⟩), (100012, some ⟨[(19, false, [.b])], [], [], [21, 22], [], []⟩), (100013, some ⟨[(19, false, [.b])], [], [], [22], [], []⟩), (100016, some ⟨[(23, false, [.b])], [], [], [25, 26, 27, 28, 29, 30, 31, 32, 33], [], []⟩), (100017, some ⟨[(23, false, [.b])], [], [], [26, 27, 28, 29, 30, 31, 32, 33], [], []⟩), (100018, some ⟨[(23, false, [.b])], [], [], [27, 28, 29, 30, 31, 32, 33], [], []⟩), (100019, some ⟨[(23, false, [.b])], [], [], [28, 29, 30, 31, 32, 33], [], []⟩), (100020, some ⟨[(23, false, [.b])], [], [], [29, 30, 31, 32, 33], [], []⟩), (100021, some ⟨[(23, false, [.b])], [], [], [30, 31, 32, 33], [], []⟩), (100022, some ⟨[(23, false, [.b])], [], [], [31, 32, 33], [], []⟩), (100023, some ⟨[(23, false, [.b])], [], [], [32, 33], [], []⟩), (100024, some ⟨[(23, false, [.b])], [], [], [33], [], []⟩), (100029, some ⟨[(36, false, [.b])], [], [], [38, 39], [], []⟩), (100030, some ⟨[(36, false, [.b])], [], [], [39], [], []⟩), (100033, some ⟨[(40, false, [.b])], [], [], [42, 43], [], []⟩), (100034, some ⟨[(40, false, [.b])], [], [], [43], [], []⟩), (100045, some ⟨[(52, false, [.b])], [], [], [54, 55, 56, 57, 58, 59, 60, 61, 62, 63, 64, 65, 66, 67, 68], [], []⟩), (100046, some ⟨[(52, false, [.b])], [], [], [55, 56, 57, 58, 59, 60, 61, 62, 63, 64, 65, 66, 67, 68], [], []⟩), (100047, some ⟨[(52, false, [.b])], [], [], [56, 57, 58, 59, 60, 61, 62, 63, 64, 65, 66, 67, 68], [], []⟩), (100048, some ⟨[(52, false, [.b])], [], [], [57, 58, 59, 60, 61, 62, 63, 64, 65, 66, 67, 68], [], []⟩), (100049, some ⟨[(52, false, [.b])], [], [], [58, 59, 60, 61, 62, 63, 64, 65, 66, 67, 68], [], []⟩), (100050, some ⟨[(52, false, [.b])], [], [], [59, 60, 61, 62, 63, 64, 65, 66, 67, 68], [], []⟩), (100051, some ⟨[(52, false, [.b])], [], [], [60, 61, 62, 63, 64, 65, 66, 67, 68], [], []⟩), (100052, some ⟨[(52, false, [.b])], [], [], [61, 62, 63, 64, 65, 66, 67, 68], [], []⟩), (100053, some ⟨[(52, false, [.b])], [], [], [62, 63, 64, 65, 66, 67, 68], [], []⟩), (100054, some ⟨[(52, false, [.b])], [], [], [63, 64, 65, 66, 67, 68], [], []⟩), (100055, some ⟨[(52, false, [.b])], [], [], [64, 65, 66, 67, 68], [], []⟩), (100056, some ⟨[(52, false, [.b])], [], [], [65, 66, 67, 68], [], []⟩), (100057, some ⟨[(52, false, [.b])], [], [], [66, 67, 68], [], []⟩), (100058, some ⟨[(52, false, [.b])], [], [], [67, 68], [], []⟩), (100059, some ⟨[(52, false, [.b])], [], [], [68], [], []⟩)], [], 12, false⟩
def t33 : Vx.T := (.jn (.ite (.cm .eql (.iv 0) (.n 0)) (.brk 0 [] [(.cm .eql (.iv 0) (.n 0))] []) (.jn (.ite (.cm .eql (.iv 0) (.n 1)) (.brk 0 [] [(.cm .eql (.iv 0) (.n 1))] []) (.jn (.ite (.cm .eql (.iv 0) (.n 5)) (.brk 0 [] [(.cm .eql (.iv 0) (.n 5))] []) (.jn (.ite (.cm .eql (.iv 0) (.n 11)) (.brk 0 [] [(.cm .eql (.iv 0) (.n 11))] []) (.jn (.ite (.cm .eql (.iv 0) (.n 15)) (.brk 0 [] [(.cm .eql (.iv 0) (.n 15))] []) (.jn (.ite (.cm .eql (.iv 0) (.n 26)) (.brk 0 [] [(.cm .eql (.iv 0) (.n 26))] []) (.brk 0 [] [(.cm .eql (.iv 0) (.n 27))] [])) 0 1 0 (.rq (.cm .eql (.iv 1) (.n 0)) (.brk 0 [] [(.bv 0)] [])))) 0 1 0 (.rq (.cm .eql (.iv 1) (.n 0)) (.brk 0 [] [(.bv 0)] [])))) 0 1 0 (.rq (.cm .eql (.iv 1) (.n 0)) (.brk 0 [] [(.bv 0)] [])))) 0 1 0 (.rq (.cm .eql (.iv 1) (.n 0)) (.brk 0 [] [(.bv 0)] [])))) 0 1 0 (.rq (.cm .eql (.iv 1) (.n 0)) (.brk 0 [] [(.bv 0)] [])))) 0 1 0 (.rq (.cm .eql (.iv 1) (.n 0)) (.ite (.bv 0) (.ret [(.n 1)] [] []) (.jn (.ite (.cm .eql (.iv 0) (.n 2)) (.brk 0 [] [(.cm .eql (.iv 0) (.n 2))] []) (.jn (.ite (.cm .eql (.iv 0) (.n 3)) (.brk 0 [] [(.cm .eql (.iv 0) (.n 3))] []) (.brk 0 [] [(.cm .eql (.iv 0) (.n 4))] [])) 0 1 0 (.rq (.cm .eql (.iv 2) (.n 0)) (.brk 0 [] [(.bv 1)] [])))) 0 1 0 (.rq (.cm .eql (.iv 2) (.n 0)) (.ite (.bv 1) (.ret [(.n 2)] [] []) (.jn (.ite (.cm .eql (.iv 0) (.n 12)) (.brk 0 [] [(.cm .eql (.iv 0) (.n 12))] []) (.jn (.ite (.cm .eql (.iv 0) (.n 13)) (.brk 0 [] [(.cm .eql (.iv 0) (.n 13))] []) (.jn (.ite (.cm .eql (.iv 0) (.n 16)) (.brk 0 [] [(.cm .eql (.iv 0) (.n 16))] []) (.jn (.ite (.cm .eql (.iv 0) (.n 32)) (.brk 0 [] [(.cm .eql (.iv 0) (.n 32))] []) (.jn (.ite (.cm .eql (.iv 0) (.n 33)) (.brk 0 [] [(.cm .eql (.iv 0) (.n 33))] []) (.jn (.ite (.cm .eql (.iv 0) (.n 34)) (.brk 0 [] [(.cm .eql (.iv 0) (.n 34))] []) (.jn (.ite (.cm .eql (.iv 0) (.n 35)) (.brk 0 [] [(.cm .eql (.iv 0) (.n 35))] []) (.jn (.ite (.cm .eql (.iv 0) (.n 36)) (.brk 0 [] [(.cm .eql (.iv 0) (.n 36))] []) (.jn (.ite (.cm .eql (.iv 0) (.n 265)) (.brk 0 [] [(.cm .eql (.iv 0) (.n 265))] []) (.brk 0 [] [(.cm .eql (.iv 0) (.n 269))] [])) 0 1 0 (.rq (.cm .eql (.iv 3) (.n 0)) (.brk 0 [] [(.bv 2)] [])))) 0 1 0 (.rq (.cm .eql (.iv 3) (.n 0)) (.brk 0 [] [(.bv 2)] [])))) 0 1 0 (.rq (.cm .eql (.iv 3) (.n 0)) (.brk 0 [] [(.bv 2)] [])))) 0 1 0 (.rq (.cm .eql (.iv 3) (.n 0)) (.brk 0 [] [(.bv 2)] [])))) 0 1 0 (.rq (.cm .eql (.iv 3) (.n 0)) (.brk 0 [] [(.bv 2)] [])))) 0 1 0 (.rq (.cm .eql (.iv 3) (.n 0)) (.brk 0 [] [(.bv 2)] [])))) 0 1 0 (.rq (.cm .eql (.iv 3) (.n 0)) (.brk 0 [] [(.bv 2)] [])))) 0 1 0 (.rq (.cm .eql (.iv 3) (.n 0)) (.brk 0 [] [(.bv 2)] [])))) 0 1 0 (.rq (.cm .eql (.iv 3) (.n 0)) (.ite (.bv 2) (.ret [(.n 3)] [] []) (.ite (.cm .eql (.iv 0) (.n 14)) (.ret [(.n 4)] [] []) (.jn (.ite (.cm .eql (.iv 0) (.n 17)) (.brk 0 [] [(.cm .eql (.iv 0) (.n 17))] []) (.jn (.ite (.cm .eql (.iv 0) (.n 268)) (.brk 0 [] [(.cm .eql (.iv 0) (.n 268))] []) (.brk 0 [] [(.cm .eql (.iv 0) (.n 270))] [])) 0 1 0 (.rq (.cm .eql (.iv 4) (.n 0)) (.brk 0 [] [(.bv 3)] [])))) 0 1 0 (.rq (.cm .eql (.iv 4) (.n 0)) (.ite (.bv 3) (.ret [(.n 5)] [] []) (.jn (.ite (.cm .eql (.iv 0) (.n 63)) (.brk 0 [] [(.cm .eql (.iv 0) (.n 63))] []) (.jn (.ite (.cm .eql (.iv 0) (.n 64)) (.brk 0 [] [(.cm .eql (.iv 0) (.n 64))] []) (.brk 0 [] [(.cm .eql (.iv 0) (.n 267))] [])) 0 1 0 (.rq (.cm .eql (.iv 5) (.n 0)) (.brk 0 [] [(.bv 4)] [])))) 0 1 0 (.rq (.cm .eql (.iv 5) (.n 0)) (.ite (.bv 4) (.ret [(.n 6)] [] []) (.ite (.cm .eql (.iv 0) (.n 266)) (.ret [(.n 7)] [] []) (.ite (.cm .eql (.iv 0) (.n 65)) (.ret [(.n 8)] [] []) (.ite (.cm .eql (.iv 0) (.n 66)) (.ret [(.n 9)] [] []) (.ite (.cm .eql (.iv 0) (.n 264)) (.ret [(.n 10)] [] []) (.jn (.ite (.cm .eql (.iv 0) (.n 28)) (.brk 0 [] [(.cm .eql (.iv 0) (.n 28))] []) (.jn (.ite (.cm .eql (.iv 0) (.n 37)) (.brk 0 [] [(.cm .eql (.iv 0) (.n 37))] []) (.jn (.ite (.cm .eql (.iv 0) (.n 38)) (.brk 0 [] [(.cm .eql (.iv 0) (.n 38))] []) (.jn (.ite (.cm .eql (.iv 0) (.n 42)) (.brk 0 [] [(.cm .eql (.iv 0) (.n 42))] []) (.jn (.ite (.cm .eql (.iv 0) (.n 43)) (.brk 0 [] [(.cm .eql (.iv 0) (.n 43))] []) (.jn (.ite (.cm .eql (.iv 0) (.n 56)) (.brk 0 [] [(.cm .eql (.iv 0) (.n 56))] []) (.jn (.ite (.cm .eql (.iv 0) (.n 57)) (.brk 0 [] [(.cm .eql (.iv 0) (.n 57))] []) (.jn (.ite (.cm .eql (.iv 0) (.n 67)) (.brk 0 [] [(.cm .eql (.iv 0) (.n 67))] []) (.jn (.ite (.cm .eql (.iv 0) (.n 68)) (.brk 0 [] [(.cm .eql (.iv 0) (.n 68))] []) (.jn (.ite (.cm .eql (.iv 0) (.n 208)) (.brk 0 [] [(.cm .eql (.iv 0) (.n 208))] []) (.jn (.ite (.cm .eql (.iv 0) (.n 209)) (.brk 0 [] [(.cm .eql (.iv 0) (.n 209))] []) (.jn (.ite (.cm .eql (.iv 0) (.n 210)) (.brk 0 [] [(.cm .eql (.iv 0) (.n 210))] []) (.jn (.ite (.cm .eql (.iv 0) (.n 253)) (.brk 0 [] [(.cm .eql (.iv 0) (.n 253))] []) (.jn (.ite (.cm .eql (.iv 0) (.n 271)) (.brk 0 [] [(.cm .eql (.iv 0) (.n 271))] []) (.jn (.ite (.cm .eql (.iv 0) (.n 272)) (.brk 0 [] [(.cm .eql (.iv 0) (.n 272))] []) (.brk 0 [] [(.cm .eql (.iv 0) (.n 273))] [])) 0 1 0 (.rq (.cm .eql (.iv 6) (.n 0)) (.brk 0 [] [(.bv 5)] [])))) 0 1 0 (.rq (.cm .eql (.iv 6) (.n 0)) (.brk 0 [] [(.bv 5)] [])))) 0 1 0 (.rq (.cm .eql (.iv 6) (.n 0)) (.brk 0 [] [(.bv 5)] [])))) 0 1 0 (.rq (.cm .eql (.iv 6) (.n 0)) (.brk 0 [] [(.bv 5)] [])))) 0 1 0 (.rq (.cm .eql (.iv 6) (.n 0)) (.brk 0 [] [(.bv 5)] [])))) 0 1 0 (.rq (.cm .eql (.iv 6) (.n 0)) (.brk 0 [] [(.bv 5)] [])))) 0 1 0 (.rq (.cm .eql (.iv 6) (.n 0)) (.brk 0 [] [(.bv 5)] [])))) 0 1 0 (.rq (.cm .eql (.iv 6) (.n 0)) (.brk 0 [] [(.bv 5)] [])))) 0 1 0 (.rq (.cm .eql (.iv 6) (.n 0)) (.brk 0 [] [(.bv 5)] [])))) 0 1 0 (.rq (.cm .eql (.iv 6) (.n 0)) (.brk 0 [] [(.bv 5)] [])))) 0 1 0 (.rq (.cm .eql (.iv 6) (.n 0)) (.brk 0 [] [(.bv 5)] [])))) 0 1 0 (.rq (.cm .eql (.iv 6) (.n 0)) (.brk 0 [] [(.bv 5)] [])))) 0 1 0 (.rq (.cm .eql (.iv 6) (.n 0)) (.brk 0 [] [(.bv 5)] [])))) 0 1 0 (.rq (.cm .eql (.iv 6) (.n 0)) (.brk 0 [] [(.bv 5)] [])))) 0 1 0 (.rq (.cm .eql (.iv 6) (.n 0)) (.ite (.bv 5) (.ret [(.n 11)] [] []) (.call 55 [(.iv 0)] [] [] 2 2 0 (.ite (.bv 7) (.ret [(.n 5)] [] []) (.call 56 [(.iv 0)] [] [] 1 1 1 (.ite (.bv 8) (.ret [(.n 1)] [] []) (.call 57 [(.iv 0), (.n 91), (.n 102)] [] [] 0 1 0 (.ite (.nt (.bv 9)) (.call 57 [(.iv 0), (.n 139), (.n 166)] [] [] 0 1 0 (.ite (.nt (.bv 10)) (.call 57 [(.iv 0), (.n 168), (.n 171)] [] [] 0 1 0 (.ite (.nt (.bv 11)) (.call 57 [(.iv 0), (.n 174), (.n 191)] [] [] 0 1 0 (.ite (.nt (.bv 12)) (.call 57 [(.iv 0), (.n 256), (.n 263)] [] [] 0 1 0 (.ite (.bv 13) (.ret [(.n 11)] [] []) (.ret [(.n 0)] [] []))) (.ret [(.n 11)] [] []))) (.ret [(.n 11)] [] []))) (.ret [(.n 11)] [] []))) (.ret [(.n 11)] [] []))))))))))))))))))))))))))))))
def a33 : Tab := [⟨55, s55, F55⟩, ⟨56, s56, F56⟩, ⟨57, s57, F57⟩]
theorem x33 : sxFn Try.prog (Tab.sig a33) (inlN Try.prog (Tab.sig a33) (hintOf hs) 6) H33 Try.f33 (Try.f33.body.getD .skip) s33 = t33 := by kernel_rfl
theorem e33_55 : Tab.fn a33 55 = F55 := by kernel_rfl
theorem e33_56 : Tab.fn a33 56 = F56 := by kernel_rfl
theorem e33_57 : Tab.fn a33 57 = F57 := by kernel_rfl
def F33 : Vx.Fn := Vx.Fd t33 (Tab.fn a33)
theorem g33 : Vx.Good Try.prog True_ 33 s33 F33 := good_of_tree hm hI (gcons g55 (gcons g56 (gcons g57 Tab.Good.nil))) H33 hs 6 Try.func33 rfl (by kernel_rfl) x33
/-! (*trammel/instr.reader).code -/
def s42 : Sig := ⟨[(.bx [(.lf [(.i .u8)]), (.i .i64), (.i .i64)])], [(.v (.i .i64))]⟩
def H42 : Hint := ⟨[], [], [], 12, false⟩
def t42 : Vx.T := (.call 61 [(.iv 0), (.iv 1)] [] [(.v 0)] 3 0 1 (.lb (.an (.cm .eql (.iv 2) (.n 252)) (.cm .eql (.iv 4) (.n 0))) (.ite (.bv 0) (.call 44 [(.iv 3), (.iv 4)] [] [(.v 1)] 3 0 1 (.ite (.cm .gtr (.iv 5) (.n 255)) (.call 26 [(.iv 6), (.iv 7), (.n 2)] [] [(.v 2)] 2 0 1 (.ite (.cm .neq (.iv 9) (.n 0)) (.ret [(.n 0), (.iv 8), (.iv 9)] [] [(.v 3)]) (.call 33 [(.ar .add .i64 (.n 256) (.iv 5))] [] [] 1 0 0 (.ite (.cm .eql (.iv 10) (.n 0)) (.call 26 [(.iv 8), (.iv 9), (.n 2)] [] [(.v 3)] 2 0 1 (.ret [(.ar .add .i64 (.n 256) (.iv 5)), (.iv 11), (.iv 12)] [] [(.v 4)])) (.ite (.cm .eql (.iv 10) (.n 11)) (.call 26 [(.iv 8), (.iv 9), (.n 3)] [] [(.v 3)] 2 0 1 (.ret [(.ar .add .i64 (.n 256) (.iv 5)), (.iv 11), (.iv 12)] [] [(.v 4)])) (.ret [(.ar .add .i64 (.n 256) (.iv 5)), (.iv 8), (.iv 9)] [] [(.v 3)])))))) (.ite (.cm .neq (.iv 7) (.n 0)) (.ret [(.n 0), (.iv 6), (.iv 7)] [] [(.v 2)]) (.call 33 [(.ar .add .i64 (.n 256) (.iv 5))] [] [] 1 0 0 (.ite (.cm .eql (.iv 8) (.n 0)) (.call 26 [(.iv 6), (.iv 7), (.n 2)] [] [(.v 2)] 2 0 1 (.ret [(.ar .add .i64 (.n 256) (.iv 5)), (.iv 9), (.iv 10)] [] [(.v 3)])) (.ite (.cm .eql (.iv 8) (.n 11)) (.call 26 [(.iv 6), (.iv 7), (.n 3)] [] [(.v 2)] 2 0 1 (.ret [(.ar .add .i64 (.n 256) (.iv 5)), (.iv 9), (.iv 10)] [] [(.v 3)])) (.ret [(.ar .add .i64 (.n 256) (.iv 5)), (.iv 6), (.iv 7)] [] [(.v 2)]))))))) (.ite (.cm .neq (.iv 4) (.n 0)) (.ret [(.n 0), (.iv 3), (.iv 4)] [] [(.v 1)]) (.call 33 [(.iv 2)] [] [] 1 0 0 (.ite (.cm .eql (.iv 5) (.n 0)) (.call 26 [(.iv 3), (.iv 4), (.n 2)] [] [(.v 1)] 2 0 1 (.ret [(.iv 2), (.iv 6), (.iv 7)] [] [(.v 2)])) (.ite (.cm .eql (.iv 5) (.n 11)) (.call 26 [(.iv 3), (.iv 4), (.n 3)] [] [(.v 1)] 2 0 1 (.ret [(.iv 2), (.iv 6), (.iv 7)] [] [(.v 2)])) (.ret [(.iv 2), (.iv 3), (.iv 4)] [] [(.v 1)]))))))))
def a42 : Tab := [⟨61, s61, F61⟩, ⟨44, s44, F44⟩, ⟨26, s26, F26⟩, ⟨33, s33, F33⟩]
theorem x42 : sxFn Try.prog (Tab.sig a42) (inlN Try.prog (Tab.sig a42) (hintOf hs) 6) H42 Try.f42 (Try.f42.body.getD .skip) s42 = t42 := by kernel_rfl
theorem e42_61 : Tab.fn a42 61 = F61 := by kernel_rfl
theorem e42_44 : Tab.fn a42 44 = F44 := by kernel_rfl
theorem e42_26 : Tab.fn a42 26 = F26 := by kernel_rfl
theorem e42_33 : Tab.fn a42 33 = F33 := by kernel_rfl
def F42 : Vx.Fn := Vx.Fd t42 (Tab.fn a42)
theorem g42 : Vx.Good Try.prog True_ 42 s42 F42 := good_of_tree hm hI (gcons g61 (gcons g44 (gcons g26 (gcons g33 Tab.Good.nil)))) H42 hs 6 Try.func42 rfl (by kernel_rfl) x42
/-! trammel/typ.Val -/
def s72 : Sig := ⟨[(.v (.lf [(.i .u8)]))], [(.v (.i .i64)), (.v (.i .i64)), (.v (.i .i64))]⟩
def H72 : Hint := ⟨[], [], [], 12, false⟩
def t72 : Vx.T := (.ite (.cm .eql (.ln 0) (.n 0)) (.ret [(.n 0), (.n 0), (.n 1)] [] []) (.rq (.cm .lss (.n 0) (.ln 0)) (.ite (.cm .eql (.ix 0 (.n 0) 0) (.n 127)) (.ite (.cm .eql (.ix 0 (.n 0) 0) (.n 127)) (.ret [(.cv .i64 (.ix 0 (.n 0) 0)), (.n 1), (.n 0)] [] []) (.ite (.cm .eql (.ix 0 (.n 0) 0) (.n 125)) (.ite (.cm .eql (.ix 0 (.n 0) 0) (.n 125)) (.ret [(.n 0), (.n 0), (.n 3)] [] []) (.ret [(.n 0), (.n 0), (.n 2)] [] [])) (.ite (.cm .eql (.ix 0 (.n 0) 0) (.n 124)) (.ite (.cm .eql (.ix 0 (.n 0) 0) (.n 124)) (.ret [(.n 0), (.n 0), (.n 3)] [] []) (.ret [(.n 0), (.n 0), (.n 2)] [] [])) (.ite (.cm .eql (.ix 0 (.n 0) 0) (.n 123)) (.ite (.cm .eql (.ix 0 (.n 0) 0) (.n 123)) (.ret [(.n 0), (.n 0), (.n 3)] [] []) (.ret [(.n 0), (.n 0), (.n 2)] [] [])) (.ite (.cm .eql (.ix 0 (.n 0) 0) (.n 112)) (.ite (.cm .eql (.ix 0 (.n 0) 0) (.n 112)) (.ret [(.n 0), (.n 0), (.n 3)] [] []) (.ret [(.n 0), (.n 0), (.n 2)] [] [])) (.ite (.cm .eql (.ix 0 (.n 0) 0) (.n 111)) (.ret [(.n 0), (.n 0), (.n 3)] [] []) (.ret [(.n 0), (.n 0), (.n 2)] [] []))))))) (.ite (.cm .eql (.ix 0 (.n 0) 0) (.n 126)) (.ret [(.cv .i64 (.ix 0 (.n 0) 0)), (.n 1), (.n 0)] [] []) (.ite (.cm .eql (.ix 0 (.n 0) 0) (.n 125)) (.ite (.cm .eql (.ix 0 (.n 0) 0) (.n 125)) (.ret [(.n 0), (.n 0), (.n 3)] [] []) (.ret [(.n 0), (.n 0), (.n 2)] [] [])) (.ite (.cm .eql (.ix 0 (.n 0) 0) (.n 124)) (.ite (.cm .eql (.ix 0 (.n 0) 0) (.n 124)) (.ret [(.n 0), (.n 0), (.n 3)] [] []) (.ret [(.n 0), (.n 0), (.n 2)] [] [])) (.ite (.cm .eql (.ix 0 (.n 0) 0) (.n 123)) (.ite (.cm .eql (.ix 0 (.n 0) 0) (.n 123)) (.ret [(.n 0), (.n 0), (.n 3)] [] []) (.ret [(.n 0), (.n 0), (.n 2)] [] [])) (.ite (.cm .eql (.ix 0 (.n 0) 0) (.n 112)) (.ite (.cm .eql (.ix 0 (.n 0) 0) (.n 112)) (.ret [(.n 0), (.n 0), (.n 3)] [] []) (.ret [(.n 0), (.n 0), (.n 2)] [] [])) (.ite (.cm .eql (.ix 0 (.n 0) 0) (.n 111)) (.ret [(.n 0), (.n 0), (.n 3)] [] []) (.ret [(.n 0), (.n 0), (.n 2)] [] []))))))))))
def a72 : Tab := []
theorem x72 : sxFn Try.prog (Tab.sig a72) (inlN Try.prog (Tab.sig a72) (hintOf hs) 6) H72 Try.f72 (Try.f72.body.getD .skip) s72 = t72 := by kernel_rfl
def F72 : Vx.Fn := Vx.Fd t72 (Tab.fn a72)
theorem g72 : Vx.Good Try.prog True_ 72 s72 F72 := good_of_tree hm hI Tab.Good.nil H72 hs 6 Try.func72 rfl (by kernel_rfl) x72
/-! trammel/leb.S -/
def s64 : Sig := ⟨[(.v (.lf [(.i .u8)])), (.v (.i .i64))], [(.v (.i .i64)), (.v (.i .i64)), (.v (.i .i64))]⟩
def H64 : Hint := ⟨[], [], [], 12, false⟩
def t64 : Vx.T := (.call 73 [(.iv 0)] [] [(.v 0)] 4 0 0 (.ite (.cm .neq (.iv 4) (.n 0)) (.ret [(.n 0), (.n 0), (.iv 4)] [] []) (.li (.ar .sub .i64 (.iv 0) (.ar .mul .i64 (.n 7) (.ar .sub .i64 (.iv 3) (.n 1)))) (.ite (.cm .lss (.iv 5) (.n 7)) (.rq (.cm .geq (.cv .u64 (.ar .sub .i64 (.iv 5) (.n 1))) (.n 0)) (.lb (.cm .neq (.ar .shr .u8 (.iv 2) (.cv .u64 (.ar .sub .i64 (.iv 5) (.n 1)))) (.n 0)) (.rq (.oo (.nt (.bv 0)) (.cm .geq (.cv .u64 (.ar .sub .i64 (.iv 5) (.n 1))) (.n 0))) (.lb (.cm .neq (.ar .shr .u8 (.iv 2) (.cv .u64 (.ar .sub .i64 (.iv 5) (.n 1)))) (.ar .shr .u8 (.n 127) (.cv .u64 (.ar .sub .i64 (.iv 5) (.n 1))))) (.ite (.an (.bv 0) (.bv 1)) (.ret [(.n 0), (.n 0), (.n 2)] [] []) (.lb (.an (.cm .lss (.ar .mul .i64 (.n 7) (.iv 3)) (.n 64)) (.cm .neq (.ar .and .u8 (.iv 2) (.n 64)) (.n 0))) (.ite (.bv 2) (.rq (.cm .geq (.cv .u64 (.ar .mul .i64 (.n 7) (.iv 3))) (.n 0)) (.li (.ar .or .u64 (.iv 1) (.ar .shl .u64 (.n 18446744073709551615) (.cv .u64 (.ar .mul .i64 (.n 7) (.iv 3))))) (.ret [(.cv .i64 (.iv 6)), (.iv 3), (.n 0)] [] []))) (.ret [(.cv .i64 (.iv 1)), (.iv 3), (.n 0)] [] [])))))))) (.lb (.an (.cm .lss (.ar .mul .i64 (.n 7) (.iv 3)) (.n 64)) (.cm .neq (.ar .and .u8 (.iv 2) (.n 64)) (.n 0))) (.ite (.bv 0) (.rq (.cm .geq (.cv .u64 (.ar .mul .i64 (.n 7) (.iv 3))) (.n 0)) (.li (.ar .or .u64 (.iv 1) (.ar .shl .u64 (.n 18446744073709551615) (.cv .u64 (.ar .mul .i64 (.n 7) (.iv 3))))) (.ret [(.cv .i64 (.iv 6)), (.iv 3), (.n 0)] [] []))) (.ret [(.cv .i64 (.iv 1)), (.iv 3), (.n 0)] [] [])))))))
def a64 : Tab := [⟨73, s73, F73⟩]
theorem x64 : sxFn Try.prog (Tab.sig a64) (inlN Try.prog (Tab.sig a64) (hintOf hs) 6) H64 Try.f64 (Try.f64.body.getD .skip) s64 = t64 := by kernel_rfl
theorem e64_73 : Tab.fn a64 73 = F73 := by kernel_rfl
def F64 : Vx.Fn := Vx.Fd t64 (Tab.fn a64)
theorem g64 : Vx.Good Try.prog True_ 64 s64 F64 := good_of_tree hm hI (gcons g73 Tab.Good.nil) H64 hs 6 Try.func64 rfl (by kernel_rfl) x64
/-! trammel/typ.Block -/
def s62 : Sig := ⟨[(.v (.lf [(.i .u8)]))], [(.v (.i .i64)), (.v (.i .i64)), (.v (.i .i64))]⟩
def H62 : Hint := ⟨[], [], [], 12, false⟩
def t62 : Vx.T := (.rq (.oo (.nt (.cm .gtr (.ln 0) (.n 0))) (.cm .lss (.n 0) (.ln 0))) (.ite (.cm .gtr (.ln 0) (.n 0)) (.rq (.cm .lss (.n 0) (.ln 0)) (.ite (.cm .eql (.ix 0 (.n 0) 0) (.n 64)) (.ret [(.n (-64)), (.n 1), (.n 0)] [] []) (.call 72 [] [] [(.v 0)] 3 0 0 (.ite (.cm .neq (.iv 2) (.n 2)) (.ite (.cm .neq (.iv 2) (.n 0)) (.ret [(.n 0), (.n 0), (.iv 2)] [] []) (.ret [(.ar .sub .i64 (.iv 0) (.n 128)), (.n 1), (.n 0)] [] [])) (.call 64 [(.n 33)] [] [(.v 0)] 3 0 0 (.ite (.cm .neq (.iv 5) (.n 0)) (.ret [(.n 0), (.n 0), (.iv 5)] [] []) (.ite (.cm .lss (.iv 3) (.n 0)) (.ret [(.n 0), (.n 0), (.n 2)] [] []) (.ret [(.iv 3), (.iv 4), (.n 0)] [] [])))))))) (.call 72 [] [] [(.v 0)] 3 0 0 (.ite (.cm .neq (.iv 2) (.n 2)) (.ite (.cm .neq (.iv 2) (.n 0)) (.ret [(.n 0), (.n 0), (.iv 2)] [] []) (.ret [(.ar .sub .i64 (.iv 0) (.n 128)), (.n 1), (.n 0)] [] [])) (.call 64 [(.n 33)] [] [(.v 0)] 3 0 0 (.ite (.cm .neq (.iv 5) (.n 0)) (.ret [(.n 0), (.n 0), (.iv 5)] [] []) (.ite (.cm .lss (.iv 3) (.n 0)) (.ret [(.n 0), (.n 0), (.n 2)] [] []) (.ret [(.iv 3), (.iv 4), (.n 0)] [] []))))))))
def a62 : Tab := [⟨72, s72, F72⟩, ⟨64, s64, F64⟩]
theorem x62 : sxFn Try.prog (Tab.sig a62) (inlN Try.prog (Tab.sig a62) (hintOf hs) 6) H62 Try.f62 (Try.f62.body.getD .skip) s62 = t62 := by kernel_rfl
theorem e62_72 : Tab.fn a62 72 = F72 := by kernel_rfl
theorem e62_64 : Tab.fn a62 64 = F64 := by kernel_rfl
def F62 : Vx.Fn := Vx.Fd t62 (Tab.fn a62)
theorem g62 : Vx.Good Try.prog True_ 62 s62 F62 := good_of_tree hm hI (gcons g72 (gcons g64 Tab.Good.nil)) H62 hs 6 Try.func62 rfl (by kernel_rfl) x62
/-! (*trammel/instr.reader).block -/
def s43 : Sig := ⟨[(.bx [(.lf [(.i .u8)]), (.i .i64), (.i .i64)])], [(.v (.i .i64))]⟩
def H43 : Hint := ⟨[], [], [], 12, false⟩
def t43 : Vx.T := (.ite (.cm .neq (.iv 1) (.n 0)) (.ret [(.n 0), (.iv 0), (.iv 1)] [] [(.v 0)]) (.rq (.an (.cm .leq (.n 0) (.iv 0)) (.an (.cm .leq (.iv 0) (.ln 0)) (.cm .leq (.ln 0) (.ln 0)))) (.lst [(.cut (.v 0) (.iv 0) (.ln 0))] (.call 62 [] [] [(.v 1)] 3 0 0 (.call 26 [(.iv 0), (.iv 1), (.iv 4)] [] [(.v 0)] 2 0 1 (.ret [(.iv 2), (.ar .add .i64 (.iv 5) (.iv 3)), (.iv 6)] [] [(.v 2)]))))))
def a43 : Tab := [⟨62, s62, F62⟩, ⟨26, s26, F26⟩]
theorem x43 : sxFn Try.prog (Tab.sig a43) (inlN Try.prog (Tab.sig a43) (hintOf hs) 6) H43 Try.f43 (Try.f43.body.getD .skip) s43 = t43 := by kernel_rfl
theorem e43_62 : Tab.fn a43 62 = F62 := by kernel_rfl
theorem e43_26 : Tab.fn a43 26 = F26 := by kernel_rfl
def F43 : Vx.Fn := Vx.Fd t43 (Tab.fn a43)
theorem g43 : Vx.Good Try.prog True_ 43 s43 F43 := good_of_tree hm hI (gcons g62 (gcons g26 Tab.Good.nil)) H43 hs 6 Try.func43 rfl (by kernel_rfl) x43
/-! (*trammel/instr.reader).labels -/
def s45 : Sig := ⟨[(.bx [(.lf [(.i .u8)]), (.i .i64), (.i .i64)])], [(.v (.lo 3 [(.i .i64)]))]⟩
def H45 : Hint := ⟨[], [(7, some ⟨[(4, false, [.lo 3 [(.i .i64)]]), (5, false, [.i .i64])], [(0, 0, .lf [(.i .u8)]), (0, 1, .i .i64), (0, 2, .i .i64)], [], [17, 18, 19, 20, 21, 22, 23, 24, 25, 26, 27, 28, 29, 30, 31, 32, 33, 34, 35], [], []⟩)], [], 12, false⟩
def l45_1 : Vx.T := (.lb (.an (.cm .lss (.iv 7) (.iv 2)) (.cm .eql (.iv 9) (.n 0))) (.ite (.bv 1) (.call 44 [(.iv 8), (.iv 9)] [] [(.v 4)] 3 0 1 (.lst [(.els [[(.i (.iv 10))]])] (.rq (.an (.cm .leq (.ln 3) (.n 3909374676536)) (.cm .leq (.ln 6) (.n 3909374676536))) (.lst [(.ap (.v 3) (.v 6))] (.nxt [(.ar .add .i64 (.iv 7) (.n 1)), (.iv 11), (.iv 12)] [] [(.v 7), (.v 5)]))))) (.brk 2 [(.iv 7), (.iv 8), (.iv 9)] [] [(.v 3), (.v 4)])))
def k45_2 : Vx.T := (.rq (.cm .eql (.iv 7) (.n 2)) (.ret [(.iv 9), (.iv 10)] [] [(.v 3), (.v 4)]))
def l45_3 : Vx.T := (.lb (.an (.cm .lss (.iv 5) (.iv 2)) (.cm .eql (.iv 7) (.n 0))) (.ite (.bv 1) (.call 44 [(.iv 6), (.iv 7)] [] [(.v 3)] 3 0 1 (.lst [(.els [[(.i (.iv 8))]])] (.rq (.an (.cm .leq (.ln 2) (.n 3909374676536)) (.cm .leq (.ln 5) (.n 3909374676536))) (.lst [(.ap (.v 2) (.v 5))] (.nxt [(.ar .add .i64 (.iv 5) (.n 1)), (.iv 9), (.iv 10)] [] [(.v 6), (.v 4)]))))) (.brk 2 [(.iv 5), (.iv 6), (.iv 7)] [] [(.v 2), (.v 3)])))
def k45_4 : Vx.T := (.rq (.cm .eql (.iv 5) (.n 2)) (.ret [(.iv 7), (.iv 8)] [] [(.v 2), (.v 3)]))
def t45 : Vx.T := (.call 44 [(.iv 0), (.iv 1)] [] [(.v 0)] 3 0 1 (.lb (.an (.cm .eql (.iv 4) (.n 0)) (.cm .gtr (.iv 2) (.n 64))) (.ite (.bv 0) (.call 26 [(.iv 3), (.iv 4), (.n 4)] [] [(.v 1)] 2 0 1 (.lp [(.n 0), (.iv 5), (.iv 6)] [] [.nil, (.v 2)] 3 0 2 l45_1 k45_2)) (.lp [(.n 0), (.iv 3), (.iv 4)] [] [.nil, (.v 1)] 3 0 2 l45_3 k45_4))))
def a45 : Tab := [⟨44, s44, F44⟩, ⟨26, s26, F26⟩]
theorem x45 : sxFn Try.prog (Tab.sig a45) (inlN Try.prog (Tab.sig a45) (hintOf hs) 6) H45 Try.f45 (Try.f45.body.getD .skip) s45 = t45 := by kernel_rfl
theorem e45_44 : Tab.fn a45 44 = F44 := by kernel_rfl
theorem e45_26 : Tab.fn a45 26 = F26 := by kernel_rfl
def F45 : Vx.Fn := Vx.Fd t45 (Tab.fn a45)
theorem g45 : Vx.Good Try.prog True_ 45 s45 F45 := good_of_tree hm hI (gcons g44 (gcons g26 Tab.Good.nil)) H45 hs 6 Try.func45 rfl (by kernel_rfl) x45
/-! (*trammel/instr.reader).zero -/
def s46 : Sig := ⟨[(.bx [(.lf [(.i .u8)]), (.i .i64), (.i .i64)])], []⟩
def H46 : Hint := ⟨[], [(100002, some ⟨[], [(0, 0, .lf [(.i .u8)]), (0, 1, .i .i64), (0, 2, .i .i64)], [], [5, 6], [], []⟩)], [], 12, false⟩
def t46 : Vx.T := (.call 61 [(.iv 0), (.iv 1)] [] [(.v 0)] 3 0 1 (.jn (.ite (.cm .neq (.iv 2) (.n 0)) (.call 26 [(.iv 3), (.iv 4), (.n 2)] [] [(.v 1)] 2 0 1 (.brk 0 [(.iv 5), (.iv 6)] [] [(.v 2)])) (.brk 0 [(.iv 3), (.iv 4)] [] [(.v 1)])) 2 0 1 (.rq (.cm .eql (.iv 5) (.n 0)) (.ret [(.iv 6), (.iv 7)] [] [(.v 2)]))))
def a46 : Tab := [⟨61, s61, F61⟩, ⟨26, s26, F26⟩]
theorem x46 : sxFn Try.prog (Tab.sig a46) (inlN Try.prog (Tab.sig a46) (hintOf hs) 6) H46 Try.f46 (Try.f46.body.getD .skip) s46 = t46 := by kernel_rfl
theorem e46_61 : Tab.fn a46 61 = F61 := by kernel_rfl
theorem e46_26 : Tab.fn a46 26 = F26 := by kernel_rfl
def F46 : Vx.Fn := Vx.Fd t46 (Tab.fn a46)
theorem g46 : Vx.Good Try.prog True_ 46 s46 F46 := good_of_tree hm hI (gcons g61 (gcons g26 Tab.Good.nil)) H46 hs 6 Try.func46 rfl (by kernel_rfl) x46
/-! (*trammel/instr.reader).s -/
def s47 : Sig := ⟨[(.bx [(.lf [(.i .u8)]), (.i .i64), (.i .i64)]), (.v (.i .i64))], [(.v (.i .i64))]⟩
def H47 : Hint := ⟨[], [], [], 12, false⟩
def t47 : Vx.T := (.ite (.cm .neq (.iv 1) (.n 0)) (.ret [(.n 0), (.iv 0), (.iv 1)] [] [(.v 0)]) (.rq (.an (.cm .leq (.n 0) (.iv 0)) (.an (.cm .leq (.iv 0) (.ln 0)) (.cm .leq (.ln 0) (.ln 0)))) (.lst [(.cut (.v 0) (.iv 0) (.ln 0))] (.call 64 [(.iv 2)] [] [(.v 1)] 3 0 0 (.call 26 [(.iv 0), (.iv 1), (.iv 5)] [] [(.v 0)] 2 0 1 (.ret [(.iv 3), (.ar .add .i64 (.iv 6) (.iv 4)), (.iv 7)] [] [(.v 2)]))))))
def a47 : Tab := [⟨64, s64, F64⟩, ⟨26, s26, F26⟩]
theorem x47 : sxFn Try.prog (Tab.sig a47) (inlN Try.prog (Tab.sig a47) (hintOf hs) 6) H47 Try.f47 (Try.f47.body.getD .skip) s47 = t47 := by kernel_rfl
theorem e47_64 : Tab.fn a47 64 = F64 := by kernel_rfl
theorem e47_26 : Tab.fn a47 26 = F26 := by kernel_rfl
def F47 : Vx.Fn := Vx.Fd t47 (Tab.fn a47)
theorem g47 : Vx.Good Try.prog True_ 47 s47 F47 := good_of_tree hm hI (gcons g64 (gcons g26 Tab.Good.nil)) H47 hs 6 Try.func47 rfl (by kernel_rfl) x47
/-! (*trammel/instr.reader).instr -/
def s25 : Sig := ⟨[(.bx [(.lf [(.i .u8)]), (.i .i64), (.i .i64)])], [(.agg [(.i .i64), (.i .i64), (.i .i64), (.i .i64), (.lo 3 [(.i .i64)])])]⟩
def H25 : Hint := ⟨[], [], [], 12, false⟩
def t25 : Vx.T := (.call 42 [(.iv 0), (.iv 1)] [] [(.v 0)] 3 0 1 (.ite (.cm .neq (.iv 4) (.n 0)) (.ret [(.iv 2), (.n 0), (.n 0), (.n 0), (.iv 3), (.iv 4)] [] [.nil, (.v 1)]) (.call 33 [(.iv 2)] [] [] 1 0 0 (.ite (.cm .eql (.iv 5) (.n 2)) (.call 43 [(.iv 3), (.iv 4)] [] [(.v 1)] 3 0 1 (.ret [(.iv 2), (.iv 6), (.n 0), (.n 0), (.iv 7), (.iv 8)] [] [.nil, (.v 2)])) (.ite (.cm .eql (.iv 5) (.n 3)) (.call 44 [(.iv 3), (.iv 4)] [] [(.v 1)] 3 0 1 (.ret [(.iv 2), (.iv 6), (.n 0), (.n 0), (.iv 7), (.iv 8)] [] [.nil, (.v 2)])) (.ite (.cm .eql (.iv 5) (.n 4)) (.call 45 [(.iv 3), (.iv 4)] [] [(.v 1)] 2 0 2 (.call 44 [(.iv 6), (.iv 7)] [] [(.v 3)] 3 0 1 (.ret [(.iv 2), (.iv 8), (.n 0), (.n 0), (.iv 9), (.iv 10)] [] [(.v 2), (.v 4)]))) (.ite (.cm .eql (.iv 5) (.n 5)) (.call 44 [(.iv 3), (.iv 4)] [] [(.v 1)] 3 0 1 (.call 44 [(.iv 7), (.iv 8)] [] [(.v 2)] 3 0 1 (.ret [(.iv 2), (.iv 6), (.iv 9), (.n 0), (.iv 10), (.iv 11)] [] [.nil, (.v 3)]))) (.ite (.cm .eql (.iv 5) (.n 6)) (.call 46 [(.iv 3), (.iv 4)] [] [(.v 1)] 2 0 1 (.ret [(.iv 2), (.n 0), (.n 0), (.n 0), (.iv 6), (.iv 7)] [] [.nil, (.v 2)])) (.ite (.cm .eql (.iv 5) (.n 7)) (.call 46 [(.iv 3), (.iv 4)] [] [(.v 1)] 2 0 1 (.call 46 [(.iv 6), (.iv 7)] [] [(.v 2)] 2 0 1 (.ret [(.iv 2), (.n 0), (.n 0), (.n 0), (.iv 8), (.iv 9)] [] [.nil, (.v 3)]))) (.ite (.cm .eql (.iv 5) (.n 8)) (.call 47 [(.iv 3), (.iv 4), (.n 32)] [] [(.v 1)] 3 0 1 (.ret [(.iv 2), (.n 0), (.n 0), (.iv 6), (.iv 7), (.iv 8)] [] [.nil, (.v 2)])) (.ite (.cm .eql (.iv 5) (.n 9)) (.call 47 [(.iv 3), (.iv 4), (.n 64)] [] [(.v 1)] 3 0 1 (.ret [(.iv 2), (.n 0), (.n 0), (.iv 6), (.iv 7), (.iv 8)] [] [.nil, (.v 2)])) (.ite (.cm .eql (.iv 5) (.n 10)) (.call 44 [(.iv 3), (.iv 4)] [] [(.v 1)] 3 0 1 (.call 46 [(.iv 7), (.iv 8)] [] [(.v 2)] 2 0 1 (.ret [(.iv 2), (.iv 6), (.n 0), (.n 0), (.iv 9), (.iv 10)] [] [.nil, (.v 3)]))) (.ret [(.iv 2), (.n 0), (.n 0), (.n 0), (.iv 3), (.iv 4)] [] [.nil, (.v 1)])))))))))))))
def a25 : Tab := [⟨42, s42, F42⟩, ⟨33, s33, F33⟩, ⟨43, s43, F43⟩, ⟨44, s44, F44⟩, ⟨45, s45, F45⟩, ⟨46, s46, F46⟩, ⟨47, s47, F47⟩]
theorem x25 : sxFn Try.prog (Tab.sig a25) (inlN Try.prog (Tab.sig a25) (hintOf hs) 6) H25 Try.f25 (Try.f25.body.getD .skip) s25 = t25 := by kernel_rfl
theorem e25_42 : Tab.fn a25 42 = F42 := by kernel_rfl
theorem e25_33 : Tab.fn a25 33 = F33 := by kernel_rfl
theorem e25_43 : Tab.fn a25 43 = F43 := by kernel_rfl
theorem e25_44 : Tab.fn a25 44 = F44 := by kernel_rfl
theorem e25_45 : Tab.fn a25 45 = F45 := by kernel_rfl
theorem e25_46 : Tab.fn a25 46 = F46 := by kernel_rfl
theorem e25_47 : Tab.fn a25 47 = F47 := by kernel_rfl
def F25 : Vx.Fn := Vx.Fd t25 (Tab.fn a25)
theorem g25 : Vx.Good Try.prog True_ 25 s25 F25 := good_of_tree hm hI (gcons g42 (gcons g33 (gcons g43 (gcons g44 (gcons g45 (gcons g46 (gcons g47 Tab.Good.nil))))))) H25 hs 6 Try.func25 rfl (by kernel_rfl) x25
/-! trammel/instr.One -/
def s23 : Sig := ⟨[(.v (.lf [(.i .u8)]))], [(.agg [(.i .i64), (.i .i64), (.i .i64), (.i .i64), (.lo 3 [(.i .i64)])]), (.v (.i .i64)), (.v (.i .i64))]⟩
def H23 : Hint := ⟨[], [], [], 12, false⟩
def t23 : Vx.T := (.call 25 [(.n 0), (.n 0)] [] [(.v 0)] 6 0 2 (.ite (.cm .neq (.iv 5) (.n 0)) (.ret [(.n 0), (.n 0), (.n 0), (.n 0), (.n 0), (.iv 5)] [] [.nil]) (.ret [(.iv 0), (.iv 1), (.iv 2), (.iv 3), (.iv 4), (.n 0)] [] [(.v 1)])))
def a23 : Tab := [⟨25, s25, F25⟩]
theorem x23 : sxFn Try.prog (Tab.sig a23) (inlN Try.prog (Tab.sig a23) (hintOf hs) 6) H23 Try.f23 (Try.f23.body.getD .skip) s23 = t23 := by kernel_rfl
theorem e23_25 : Tab.fn a23 25 = F25 := by kernel_rfl
def F23 : Vx.Fn := Vx.Fd t23 (Tab.fn a23)
theorem g23 : Vx.Good Try.prog True_ 23 s23 F23 := good_of_tree hm hI (gcons g25 Tab.Good.nil) H23 hs 6 Try.func23 rfl (by kernel_rfl) x23
/-! (*trammel/instr.nest).step -/
def s27 : Sig := ⟨[(.bx [(.lo 4 [.b])]), (.agg [(.i .i64), (.i .i64), (.i .i64), (.i .i64), (.lf [(.i .i64)])])], [(.v .b), (.v (.i .i64))]⟩
def H27 : Hint := ⟨[67], [], [], 12, false⟩
def b27_1 : Vx.T := (.ite (.cm .geq (.ln 0) (.n 64)) (.ret [(.n 4)] [(.t false)] [(.v 0)]) (.lst [(.els [[(.b (.cm .eql (.iv 0) (.n 4)))]])] (.rq (.an (.cm .leq (.ln 0) (.n 17592186044416)) (.cm .leq (.ln 2) (.n 17592186044416))) (.lst [(.ap (.v 0) (.v 2))] (.ret [(.n 0)] [(.t false)] [(.v 3)])))))
def b27_2 : Vx.T := (.ite (.cm .eql (.iv 0) (.n 5)) (.rq (.oo (.cm .lss (.ar .sub .i64 (.ln 0) (.n 1)) (.n 0)) (.an (.cm .geq (.ar .sub .i64 (.ln 0) (.n 1)) (.n 0)) (.cm .lss (.ar .sub .i64 (.ln 0) (.n 1)) (.ln 0)))) (.ite (.nt (.cm .lss (.ar .sub .i64 (.ln 0) (.n 1)) (.n 0))) (.rq (.an (.cm .geq (.ar .sub .i64 (.ln 0) (.n 1)) (.n 0)) (.cm .lss (.ar .sub .i64 (.ln 0) (.n 1)) (.ln 0))) (.ite (.nt (.bx 0 (.ar .sub .i64 (.ln 0) (.n 1)) 0)) (.ret [(.n 2)] [(.t false)] [(.v 0)]) (.rq (.an (.cm .geq (.ar .sub .i64 (.ln 0) (.n 1)) (.n 0)) (.cm .lss (.ar .sub .i64 (.ln 0) (.n 1)) (.ln 0))) (.rq (.an (.cm .geq (.ar .sub .i64 (.ln 0) (.n 1)) (.n 0)) (.cm .lss (.ar .sub .i64 (.ln 0) (.n 1)) (.ln 0))) (.lst [(.up 0 1 (.ar .sub .i64 (.ln 0) (.n 1)) 0 [(.b (.t false))])] (.ret [(.n 0)] [(.t false)] [(.v 2)])))))) (.ret [(.n 2)] [(.t false)] [(.v 0)]))) (.ite (.cm .eql (.iv 0) (.n 11)) (.ite (.cm .lss (.ar .sub .i64 (.ln 0) (.n 1)) (.n 0)) (.ret [(.n 0)] [(.t true)] [(.v 0)]) (.rq (.an (.cm .leq (.n 0) (.ar .sub .i64 (.ln 0) (.n 1))) (.cm .leq (.ar .sub .i64 (.ln 0) (.n 1)) (.ln 0))) (.lst [(.cut (.v 0) (.n 0) (.ar .sub .i64 (.ln 0) (.n 1)))] (.ret [(.n 0)] [(.t false)] [(.v 2)])))) (.ret [(.n 0)] [(.t false)] [(.v 0)])))
def t27 : Vx.T := (.ite (.cm .eql (.iv 0) (.n 2)) (.ite (.cm .eql (.iv 0) (.n 2)) b27_1 b27_2) (.ite (.cm .eql (.iv 0) (.n 3)) (.ite (.cm .eql (.iv 0) (.n 3)) b27_1 b27_2) (.ite (.cm .eql (.iv 0) (.n 4)) b27_1 b27_2)))
def a27 : Tab := []
theorem x27 : sxFn Try.prog (Tab.sig a27) (inlN Try.prog (Tab.sig a27) (hintOf hs) 6) H27 Try.f27 (Try.f27.body.getD .skip) s27 = t27 := by kernel_rfl
def F27 : Vx.Fn := Vx.Fd t27 (Tab.fn a27)
theorem g27 : Vx.Good Try.prog True_ 27 s27 F27 := good_of_tree hm hI Tab.Good.nil H27 hs 6 Try.func27 rfl (by kernel_rfl) x27
/-! trammel/instr.Body -/
def s9 : Sig := ⟨[(.v (.lf [(.i .u8)]))], [(.v (.lo 34 [(.i .i64), (.i .i64), (.i .i64), (.i .i64), (.sl [(.i .i64)])])), (.v (.i .i64)), (.v (.i .i64))]⟩
def H9 : Hint := ⟨[], [(5, some ⟨[(2, false, [.lo 34 [(.i .i64), (.i .i64), (.i .i64), (.i .i64), (.sl [(.i .i64)])]]), (3, false, [.i .i64]), (4, false, [.i .i64]), (7, false, [.lo 34 [(.i .i64), (.i .i64), (.i .i64), (.i .i64), (.sl [(.i .i64)])]])], [(0, 0, .lf [(.i .u8)]), (0, 1, .i .i64), (0, 2, .i .i64), (1, 0, .lo 4 [.b])], [], [8, 9, 10, 14, 15, 16, 17, 18, 19, 20, 21, 22, 23, 24, 25, 26, 27, 28, 29, 30, 31, 32, 33, 34, 35, 36, 37, 38, 39, 40, 41, 42, 43, 44, 45, 46, 47, 48, 49, 50, 51, 52, 53, 54], [], []⟩)], [], 12, false⟩
def l9_1 : Vx.T := (.call 25 [(.iv 2), (.iv 3)] [] [(.v 3)] 6 0 2 (.lb (.an (.cm .eql (.iv 9) (.n 0)) (.cm .geq (.ln 2) (.n 2000))) (.ite (.bv 0) (.call 26 [(.iv 8), (.iv 9), (.n 4)] [] [(.v 6)] 2 0 1 (.ite (.cm .neq (.iv 11) (.n 0)) (.rt (.ret [(.n 0), (.iv 11)] [] [.nil])) (.call 27 [(.iv 4), (.iv 5), (.iv 6), (.iv 7)] [] [(.v 4), (.v 5)] 1 1 1 (.ite (.cm .neq (.iv 12) (.n 0)) (.rt (.ret [(.n 0), (.iv 12)] [] [.nil])) (.lst [(.els [[(.i (.iv 4)), (.i (.iv 5)), (.i (.iv 6)), (.i (.iv 7)), (.l 5)]])] (.rq (.an (.cm .leq (.ln 2) (.n 617269685768)) (.cm .leq (.ln 9) (.n 617269685768))) (.lst [(.ap (.v 2) (.v 9))] (.ite (.bv 1) (.rt (.ret [(.iv 10), (.n 0)] [] [(.v 10)])) (.nxt [(.iv 0), (.iv 1), (.iv 10), (.iv 11)] [] [(.v 1), (.v 10), (.v 7), (.v 8)]))))))))) (.ite (.cm .neq (.iv 9) (.n 0)) (.rt (.ret [(.n 0), (.iv 9)] [] [.nil])) (.call 27 [(.iv 4), (.iv 5), (.iv 6), (.iv 7)] [] [(.v 4), (.v 5)] 1 1 1 (.ite (.cm .neq (.iv 10) (.n 0)) (.rt (.ret [(.n 0), (.iv 10)] [] [.nil])) (.lst [(.els [[(.i (.iv 4)), (.i (.iv 5)), (.i (.iv 6)), (.i (.iv 7)), (.l 5)]])] (.rq (.an (.cm .leq (.ln 2) (.n 617269685768)) (.cm .leq (.ln 8) (.n 617269685768))) (.lst [(.ap (.v 2) (.v 8))] (.ite (.bv 1) (.rt (.ret [(.iv 8), (.n 0)] [] [(.v 9)])) (.nxt [(.iv 0), (.iv 1), (.iv 8), (.iv 9)] [] [(.v 1), (.v 9), (.v 6), (.v 7)])))))))))))
def k9_2 : Vx.T := (.fail 8)
def t9 : Vx.T := (.lp [(.n 0), (.n 0), (.n 0), (.n 0)] [] [.nil, .nil, (.v 0), .nil] 4 0 4 l9_1 k9_2)
def a9 : Tab := [⟨25, s25, F25⟩, ⟨26, s26, F26⟩, ⟨27, s27, F27⟩]
theorem x9 : sxFn Try.prog (Tab.sig a9) (inlN Try.prog (Tab.sig a9) (hintOf hs) 6) H9 Try.f9 (Try.f9.body.getD .skip) s9 = t9 := by kernel_rfl
theorem e9_25 : Tab.fn a9 25 = F25 := by kernel_rfl
theorem e9_26 : Tab.fn a9 26 = F26 := by kernel_rfl
theorem e9_27 : Tab.fn a9 27 = F27 := by kernel_rfl
def F9 : Vx.Fn := Vx.Fd t9 (Tab.fn a9)
theorem g9 : Vx.Good Try.prog True_ 9 s9 F9 := good_of_tree hm hI (gcons g25 (gcons g26 (gcons g27 Tab.Good.nil))) H9 hs 6 Try.func9 rfl (by kernel_rfl) x9
/-! trammel/trammellaw06.awake -/
def s8 : Sig := ⟨[], [(.v .b)]⟩
def H8 : Hint := ⟨[], [], [], 12, false⟩
def t8 : Vx.T := (.lst [(.els [[(.i (.n 65))], [(.i (.n 127))], [(.i (.n 5))]])] (.call 23 [] [] [(.v 0)] 6 0 1 (.lst [(.els [[(.i (.n 2))], [(.i (.n 64))], [(.i (.n 11))], [(.i (.n 11))], [(.i (.n 0))]])] (.call 9 [] [] [(.v 2)] 2 0 1 (.lb (.an (.cm .eql (.iv 5) (.n 0)) (.cm .eql (.iv 3) (.n (-1)))) (.lb (.an (.an (.bv 0) (.cm .eql (.iv 4) (.n 2))) (.cm .eql (.iv 7) (.n 0))) (.lb (.an (.an (.bv 1) (.cm .eql (.ln 3) (.n 3))) (.cm .eql (.iv 6) (.n 4))) (.ret [] [(.bv 2)] []))))))))
def a8 : Tab := [⟨23, s23, F23⟩, ⟨9, s9, F9⟩]
theorem x8 : sxFn Try.prog (Tab.sig a8) (inlN Try.prog (Tab.sig a8) (hintOf hs) 6) H8 Try.f8 (Try.f8.body.getD .skip) s8 = t8 := by kernel_rfl
theorem e8_23 : Tab.fn a8 23 = F23 := by kernel_rfl
theorem e8_9 : Tab.fn a8 9 = F9 := by kernel_rfl
def F8 : Vx.Fn := Vx.Fd t8 (Tab.fn a8)
theorem g8 : Vx.Good Try.prog True_ 8 s8 F8 := good_of_tree hm hI (gcons g23 (gcons g9 Tab.Good.nil)) H8 hs 6 Try.func8 rfl (by kernel_rfl) x8
/-! trammel/trammelref06.Short -/
def s10 : Sig := ⟨[(.v (.lf [(.i .i64), (.i .i64), (.i .i64), (.i .i64), (.sl [(.i .i64)])]))], [(.v .b)]⟩
def H10 : Hint := ⟨[], [(6, some ⟨[(2, false, [.b]), (3, false, [.i .i64]), (4, false, [.i .i64])], [], [], [8, 9, 10, 11, 12, 13, 14, 15, 16, 17, 18, 19, 20, 21, 22, 23, 24, 25, 26, 27, 28], [], []⟩)], [], 12, false⟩
def l10_1 : Vx.T := (.ite (.cm .lss (.iv 1) (.ln 0)) (.rq (.cm .geq (.iv 1) (.n 0)) (.lst [(.cl 0 (.iv 1) 4)] (.ite (.cm .gtr (.ln 1) (.n 100)) (.rt (.ret [] [(.t false)] [])) (.lst [(.cl 0 (.iv 1) 4)] (.nxt [(.ar .add .i64 (.iv 0) (.ln 2)), (.ar .add .i64 (.iv 1) (.n 1))] [(.bv 0)] []))))) (.brk 2 [(.iv 0), (.iv 1)] [(.bv 0)] []))
def k10_2 : Vx.T := (.rq (.cm .eql (.iv 0) (.n 2)) (.ret [] [(.cm .leq (.iv 1) (.n 2000))] []))
def t10 : Vx.T := (.ite (.cm .gtr (.ln 0) (.n 2100)) (.ret [] [(.t false)] []) (.lp [(.n 0), (.n 0)] [(.t false)] [] 2 1 0 l10_1 k10_2))
def a10 : Tab := []
theorem x10 : sxFn Try.prog (Tab.sig a10) (inlN Try.prog (Tab.sig a10) (hintOf hs) 6) H10 Try.f10 (Try.f10.body.getD .skip) s10 = t10 := by kernel_rfl
def F10 : Vx.Fn := Vx.Fd t10 (Tab.fn a10)
theorem g10 : Vx.Good Try.prog True_ 10 s10 F10 := good_of_tree hm hI Tab.Good.nil H10 hs 6 Try.func10 rfl (by kernel_rfl) x10
/-! trammel/trammelref06.Copy -/
def s13 : Sig := ⟨[(.v (.lf [(.i .i64), (.i .i64), (.i .i64), (.i .i64), (.sl [(.i .i64)])]))], [(.v (.lo 34 [(.i .i64), (.i .i64), (.i .i64), (.i .i64), (.sl [(.i .i64)])]))]⟩
def H13 : Hint := ⟨[], [(4, some ⟨[(3, false, [.lo 34 [(.i .i64), (.i .i64), (.i .i64), (.i .i64), (.sl [(.i .i64)])]]), (4, false, [.i .i64])], [], [], [5, 6, 7, 8, 9, 10, 11, 12, 13, 14, 15, 16, 17, 18, 19, 20, 21, 22, 23, 24], [], []⟩)], [], 12, false⟩
def l13_1 : Vx.T := (.ite (.cm .lss (.iv 0) (.ln 0)) (.rq (.cm .geq (.iv 0) (.n 0)) (.lst [(.cl 0 (.iv 0) 4)] (.lst [(.els [])] (.rq (.an (.cm .leq (.ln 3) (.n 3909374676536)) (.cm .leq (.ln 2) (.n 3909374676536))) (.lst [(.ap (.v 3) (.v 2))] (.lst [(.els [[(.i (.ix 0 (.iv 0) 0)), (.i (.ix 0 (.iv 0) 1)), (.i (.ix 0 (.iv 0) 2)), (.i (.ix 0 (.iv 0) 3)), (.l 4)]])] (.rq (.an (.cm .leq (.ln 1) (.n 617269685768)) (.cm .leq (.ln 5) (.n 617269685768))) (.lst [(.ap (.v 1) (.v 5))] (.nxt [(.ar .add .i64 (.iv 0) (.n 1))] [] [(.v 6)]))))))))) (.brk 2 [(.iv 0)] [] [(.v 1)]))
def k13_2 : Vx.T := (.rq (.cm .eql (.iv 0) (.n 2)) (.ret [] [] [(.v 1)]))
def t13 : Vx.T := (.lp [(.n 0)] [] [.nil] 1 0 1 l13_1 k13_2)
def a13 : Tab := []
theorem x13 : sxFn Try.prog (Tab.sig a13) (inlN Try.prog (Tab.sig a13) (hintOf hs) 6) H13 Try.f13 (Try.f13.body.getD .skip) s13 = t13 := by kernel_rfl
def F13 : Vx.Fn := Vx.Fd t13 (Tab.fn a13)
theorem g13 : Vx.Good Try.prog True_ 13 s13 F13 := good_of_tree hm hI Tab.Good.nil H13 hs 6 Try.func13 rfl (by kernel_rfl) x13
/-! trammel/instr.bare -/
def s34 : Sig := ⟨[(.agg [(.i .i64), (.i .i64), (.i .i64), (.i .i64), (.lf [(.i .i64)])]), (.v .b), (.v .b), (.v .b), (.v .b)], [(.v .b)]⟩
def H34 : Hint := ⟨[], [], [], 12, false⟩
def t34 : Vx.T := (.lb (.an (.oo (.bv 0) (.cm .eql (.iv 1) (.n 0))) (.oo (.bv 1) (.cm .eql (.iv 2) (.n 0)))) (.lb (.an (.bv 4) (.oo (.bv 2) (.cm .eql (.iv 3) (.n 0)))) (.lb (.an (.bv 5) (.oo (.bv 3) (.cm .eql (.ln 0) (.n 0)))) (.ret [] [(.bv 6)] []))))
def a34 : Tab := []
theorem x34 : sxFn Try.prog (Tab.sig a34) (inlN Try.prog (Tab.sig a34) (hintOf hs) 6) H34 Try.f34 (Try.f34.body.getD .skip) s34 = t34 := by kernel_rfl
def F34 : Vx.Fn := Vx.Fd t34 (Tab.fn a34)
theorem g34 : Vx.Good Try.prog True_ 34 s34 F34 := good_of_tree hm hI Tab.Good.nil H34 hs 6 Try.func34 rfl (by kernel_rfl) x34
/-! trammel/typ.right -/
def s58 : Sig := ⟨[(.v (.i .i64))], [(.v .b)]⟩
def H58 : Hint := ⟨[], [], [], 12, false⟩
def t58 : Vx.T := (.lb (.an (.cm .geq (.iv 0) (.n 0)) (.cm .lss (.iv 0) (.n 4294967296))) (.ret [] [(.bv 0)] []))
def a58 : Tab := []
theorem x58 : sxFn Try.prog (Tab.sig a58) (inlN Try.prog (Tab.sig a58) (hintOf hs) 6) H58 Try.f58 (Try.f58.body.getD .skip) s58 = t58 := by kernel_rfl
def F58 : Vx.Fn := Vx.Fd t58 (Tab.fn a58)
theorem g58 : Vx.Good Try.prog True_ 58 s58 F58 := good_of_tree hm hI Tab.Good.nil H58 hs 6 Try.func58 rfl (by kernel_rfl) x58
/-! slices.Clone[[]byte,byte] -/
def s28 : Sig := ⟨[(.v (.lf [(.i .u8)]))], [(.v (.lo 5 [(.i .u8)]))]⟩
def H28 : Hint := ⟨[], [], [], 12, false⟩
def t28 : Vx.T := (.nz 0 (.ret [] [] [.nil]) (.lst [(.els [])] (.rq (.an (.cm .leq (.ln 1) (.n 17592186044416)) (.cm .leq (.ln 0) (.n 17592186044416))) (.lst [(.ap (.v 1) (.v 0))] (.ret [] [] [(.v 2)])))))
def a28 : Tab := []
theorem x28 : sxFn Try.prog (Tab.sig a28) (inlN Try.prog (Tab.sig a28) (hintOf hs) 6) H28 Try.f28 (Try.f28.body.getD .skip) s28 = t28 := by kernel_rfl
def F28 : Vx.Fn := Vx.Fd t28 (Tab.fn a28)
theorem g28 : Vx.Good Try.prog True_ 28 s28 F28 := good_of_tree hm hI Tab.Good.nil H28 hs 6 Try.func28 rfl (by kernel_rfl) x28
/-! trammel/leb.PutS -/
def s49 : Sig := ⟨[(.v (.lf [(.i .u8)])), (.v (.i .i64))], [(.v (.lo 5 [(.i .u8)]))]⟩
def H49 : Hint := ⟨[], [(3, some ⟨[(1, false, [.i .i64]), (5, false, [.lo 5 [(.i .u8)]])], [], [], [8, 9, 10, 11, 12, 13, 14, 15, 16, 17, 18, 19, 20, 21], [], [1]⟩)], [], 12, false⟩
def l49_1 : Vx.T := (.lb (.oo (.cm .lss (.iv 1) (.n (-64))) (.cm .gtr (.iv 1) (.n 63))) (.ite (.bv 0) (.lst [(.els [[(.i (.ar .or .u8 (.cv .u8 (.iv 1)) (.n 128)))]])] (.rq (.an (.cm .leq (.ln 2) (.n 17592186044416)) (.cm .leq (.ln 3) (.n 17592186044416))) (.lst [(.ap (.v 2) (.v 3))] (.nxt [(.ar .shr .i64 (.iv 1) (.n 7))] [] [(.v 4)])))) (.brk 2 [(.iv 1)] [] [(.v 2)])))
def k49_2 : Vx.T := (.rq (.cm .eql (.iv 1) (.n 2)) (.lst [(.els [[(.i (.ar .and .u8 (.cv .u8 (.iv 2)) (.n 127)))]])] (.rq (.an (.cm .leq (.ln 2) (.n 17592186044416)) (.cm .leq (.ln 3) (.n 17592186044416))) (.lst [(.ap (.v 2) (.v 3))] (.ret [] [] [(.v 4)])))))
def t49 : Vx.T := (.call 28 [] [] [(.v 0)] 0 0 1 (.lp [(.iv 0)] [] [(.v 1)] 1 0 1 l49_1 k49_2))
def a49 : Tab := [⟨28, s28, F28⟩]
theorem x49 : sxFn Try.prog (Tab.sig a49) (inlN Try.prog (Tab.sig a49) (hintOf hs) 6) H49 Try.f49 (Try.f49.body.getD .skip) s49 = t49 := by kernel_rfl
theorem e49_28 : Tab.fn a49 28 = F28 := by kernel_rfl
def F49 : Vx.Fn := Vx.Fd t49 (Tab.fn a49)
theorem g49 : Vx.Good Try.prog True_ 49 s49 F49 := good_of_tree hm hI (gcons g28 Tab.Good.nil) H49 hs 6 Try.func49 rfl (by kernel_rfl) x49
/-! trammel/typ.PutBlock -/
def s35 : Sig := ⟨[(.v (.lf [(.i .u8)])), (.v (.i .i64))], [(.v (.lo 5 [(.i .u8)])), (.v (.i .i64))]⟩
def H35 : Hint := ⟨[], [], [], 12, false⟩
def t35 : Vx.T := (.lb (.an (.cm .neq (.iv 0) (.n (-64))) (.cm .neq (.iv 0) (.n (-1)))) (.ite (.an (.bv 0) (.cm .neq (.iv 0) (.n (-2)))) (.call 58 [(.iv 0)] [] [] 0 1 0 (.ite (.nt (.bv 1)) (.ret [(.n 2)] [] [.nil]) (.call 49 [(.iv 0)] [] [(.v 0)] 0 0 1 (.ret [(.n 0)] [] [(.v 1)])))) (.call 49 [(.iv 0)] [] [(.v 0)] 0 0 1 (.ret [(.n 0)] [] [(.v 1)]))))
def a35 : Tab := [⟨58, s58, F58⟩, ⟨49, s49, F49⟩]
theorem x35 : sxFn Try.prog (Tab.sig a35) (inlN Try.prog (Tab.sig a35) (hintOf hs) 6) H35 Try.f35 (Try.f35.body.getD .skip) s35 = t35 := by kernel_rfl
theorem e35_58 : Tab.fn a35 58 = F58 := by kernel_rfl
theorem e35_49 : Tab.fn a35 49 = F49 := by kernel_rfl
def F35 : Vx.Fn := Vx.Fd t35 (Tab.fn a35)
theorem g35 : Vx.Good Try.prog True_ 35 s35 F35 := good_of_tree hm hI (gcons g58 (gcons g49 Tab.Good.nil)) H35 hs 6 Try.func35 rfl (by kernel_rfl) x35
/-! trammel/instr.number -/
def s36 : Sig := ⟨[(.v (.lf [(.i .i64)]))], [(.v .b)]⟩
def H36 : Hint := ⟨[], [], [], 12, false⟩
def l36_1 : Vx.T := (.ite (.cm .lss (.iv 1) (.ln 0)) (.rq (.cm .geq (.iv 1) (.n 0)) (.lb (.oo (.cm .lss (.ix 0 (.iv 1) 0) (.n 0)) (.cm .geq (.ix 0 (.iv 1) 0) (.n 4294967296))) (.ite (.bv 0) (.brk 1 [(.iv 1), (.iv 1)] [] []) (.nxt [(.iv 0), (.ar .add .i64 (.iv 1) (.n 1))] [] [])))) (.brk 2 [(.iv 0), (.iv 1)] [] []))
def k36_2 : Vx.T := (.ite (.cm .eql (.iv 0) (.n 1)) (.ret [] [(.nt (.cm .geq (.iv 1) (.n 0)))] []) (.rq (.cm .eql (.iv 0) (.n 2)) (.ret [] [(.t true)] [])))
def t36 : Vx.T := (.lp [(.n 0), (.n 0)] [] [] 2 0 0 l36_1 k36_2)
def a36 : Tab := []
theorem x36 : sxFn Try.prog (Tab.sig a36) (inlN Try.prog (Tab.sig a36) (hintOf hs) 6) H36 Try.f36 (Try.f36.body.getD .skip) s36 = t36 := by kernel_rfl
def F36 : Vx.Fn := Vx.Fd t36 (Tab.fn a36)
theorem g36 : Vx.Good Try.prog True_ 36 s36 F36 := good_of_tree hm hI Tab.Good.nil H36 hs 6 Try.func36 rfl (by kernel_rfl) x36
/-! trammel/instr.Formed -/
def s16 : Sig := ⟨[(.agg [(.i .i64), (.i .i64), (.i .i64), (.i .i64), (.lf [(.i .i64)])])], [(.v .b)]⟩
def H16 : Hint := ⟨[], [], [], 12, false⟩
def b16_1 : Vx.T := (.lst [(.els [[(.i (.iv 1))]])] (.call 36 [] [] [(.v 1)] 0 1 0 (.ite (.bv 0) (.call 34 [(.iv 0), (.iv 1), (.iv 2), (.iv 3)] [(.t true), (.t false), (.t false), (.t false)] [(.v 0)] 0 1 0 (.ret [] [(.bv 1)] [])) (.ret [] [(.t false)] []))))
def b16_2 : Vx.T := (.ite (.cm .eql (.iv 4) (.n 4)) (.lst [(.els [[(.i (.iv 1))]])] (.call 36 [] [] [(.v 1)] 0 1 0 (.ite (.bv 0) (.call 36 [] [] [(.v 0)] 0 1 0 (.ite (.an (.bv 1) (.cm .leq (.ln 0) (.n 64))) (.call 34 [(.iv 0), (.iv 1), (.iv 2), (.iv 3)] [(.t true), (.t false), (.t false), (.t true)] [(.v 0)] 0 1 0 (.ret [] [(.bv 2)] [])) (.ret [] [(.t false)] []))) (.ret [] [(.t false)] [])))) (.ite (.cm .eql (.iv 4) (.n 5)) (.lst [(.els [[(.i (.iv 1))], [(.i (.iv 2))]])] (.call 36 [] [] [(.v 1)] 0 1 0 (.ite (.bv 0) (.call 34 [(.iv 0), (.iv 1), (.iv 2), (.iv 3)] [(.t true), (.t true), (.t false), (.t false)] [(.v 0)] 0 1 0 (.ret [] [(.bv 1)] [])) (.ret [] [(.t false)] [])))) (.ite (.cm .eql (.iv 4) (.n 8)) (.lb (.an (.cm .geq (.iv 3) (.n (-2147483648))) (.cm .lss (.iv 3) (.n 2147483648))) (.ite (.bv 0) (.call 34 [(.iv 0), (.iv 1), (.iv 2), (.iv 3)] [(.t false), (.t false), (.t true), (.t false)] [(.v 0)] 0 1 0 (.ret [] [(.bv 1)] [])) (.ret [] [(.t false)] []))) (.ite (.cm .eql (.iv 4) (.n 9)) (.call 34 [(.iv 0), (.iv 1), (.iv 2), (.iv 3)] [(.t false), (.t false), (.t true), (.t false)] [(.v 0)] 0 1 0 (.ret [] [(.bv 0)] [])) (.ret [] [(.t false)] [])))))
def b16_3 : Vx.T := (.ite (.cm .eql (.iv 4) (.n 2)) (.call 35 [(.iv 1)] [] [.nil] 1 0 1 (.ite (.cm .eql (.iv 5) (.n 0)) (.call 34 [(.iv 0), (.iv 1), (.iv 2), (.iv 3)] [(.t true), (.t false), (.t false), (.t false)] [(.v 0)] 0 1 0 (.ret [] [(.bv 0)] [])) (.ret [] [(.t false)] []))) (.ite (.cm .eql (.iv 4) (.n 3)) (.ite (.cm .eql (.iv 4) (.n 3)) b16_1 b16_2) (.ite (.cm .eql (.iv 4) (.n 10)) b16_1 b16_2)))
def t16 : Vx.T := (.call 33 [(.iv 0)] [] [] 1 0 0 (.ite (.cm .eql (.iv 4) (.n 1)) (.ite (.cm .eql (.iv 4) (.n 1)) (.call 34 [(.iv 0), (.iv 1), (.iv 2), (.iv 3)] [(.t false), (.t false), (.t false), (.t false)] [(.v 0)] 0 1 0 (.ret [] [(.bv 0)] [])) b16_3) (.ite (.cm .eql (.iv 4) (.n 6)) (.ite (.cm .eql (.iv 4) (.n 6)) (.call 34 [(.iv 0), (.iv 1), (.iv 2), (.iv 3)] [(.t false), (.t false), (.t false), (.t false)] [(.v 0)] 0 1 0 (.ret [] [(.bv 0)] [])) b16_3) (.ite (.cm .eql (.iv 4) (.n 7)) (.call 34 [(.iv 0), (.iv 1), (.iv 2), (.iv 3)] [(.t false), (.t false), (.t false), (.t false)] [(.v 0)] 0 1 0 (.ret [] [(.bv 0)] [])) b16_3))))
def a16 : Tab := [⟨33, s33, F33⟩, ⟨34, s34, F34⟩, ⟨35, s35, F35⟩, ⟨36, s36, F36⟩]
theorem x16 : sxFn Try.prog (Tab.sig a16) (inlN Try.prog (Tab.sig a16) (hintOf hs) 6) H16 Try.f16 (Try.f16.body.getD .skip) s16 = t16 := by kernel_rfl
theorem e16_33 : Tab.fn a16 33 = F33 := by kernel_rfl
theorem e16_34 : Tab.fn a16 34 = F34 := by kernel_rfl
theorem e16_35 : Tab.fn a16 35 = F35 := by kernel_rfl
theorem e16_36 : Tab.fn a16 36 = F36 := by kernel_rfl
def F16 : Vx.Fn := Vx.Fd t16 (Tab.fn a16)
theorem g16 : Vx.Good Try.prog True_ 16 s16 F16 := good_of_tree hm hI (gcons g33 (gcons g34 (gcons g35 (gcons g36 Tab.Good.nil)))) H16 hs 6 Try.func16 rfl (by kernel_rfl) x16
/-! trammel/leb.PutU -/
def s48 : Sig := ⟨[(.v (.lf [(.i .u8)])), (.v (.i .u64))], [(.v (.lo 5 [(.i .u8)]))]⟩
def H48 : Hint := ⟨[], [(3, some ⟨[(1, false, [.i .u64]), (5, false, [.lo 5 [(.i .u8)]])], [], [], [8, 9, 10, 11, 12, 13, 14, 15, 16, 17], [], [1]⟩)], [], 12, false⟩
def l48_1 : Vx.T := (.ite (.cm .geq (.iv 1) (.n 128)) (.lst [(.els [[(.i (.ar .or .u8 (.cv .u8 (.iv 1)) (.n 128)))]])] (.rq (.an (.cm .leq (.ln 2) (.n 17592186044416)) (.cm .leq (.ln 3) (.n 17592186044416))) (.lst [(.ap (.v 2) (.v 3))] (.nxt [(.ar .shr .u64 (.iv 1) (.n 7))] [] [(.v 4)])))) (.brk 2 [(.iv 1)] [] [(.v 2)]))
def k48_2 : Vx.T := (.rq (.cm .eql (.iv 1) (.n 2)) (.lst [(.els [[(.i (.cv .u8 (.iv 2)))]])] (.rq (.an (.cm .leq (.ln 2) (.n 17592186044416)) (.cm .leq (.ln 3) (.n 17592186044416))) (.lst [(.ap (.v 2) (.v 3))] (.ret [] [] [(.v 4)])))))
def t48 : Vx.T := (.call 28 [] [] [(.v 0)] 0 0 1 (.lp [(.iv 0)] [] [(.v 1)] 1 0 1 l48_1 k48_2))
def a48 : Tab := [⟨28, s28, F28⟩]
theorem x48 : sxFn Try.prog (Tab.sig a48) (inlN Try.prog (Tab.sig a48) (hintOf hs) 6) H48 Try.f48 (Try.f48.body.getD .skip) s48 = t48 := by kernel_rfl
theorem e48_28 : Tab.fn a48 28 = F28 := by kernel_rfl
def F48 : Vx.Fn := Vx.Fd t48 (Tab.fn a48)
theorem g48 : Vx.Good Try.prog True_ 48 s48 F48 := good_of_tree hm hI (gcons g28 Tab.Good.nil) H48 hs 6 Try.func48 rfl (by kernel_rfl) x48
/-! trammel/instr.put -/
def s29 : Sig := ⟨[(.v (.lo 5 [(.i .u8)])), (.agg [(.i .i64), (.i .i64), (.i .i64), (.i .i64), (.lf [(.i .i64)])])], [(.v (.lo 5 [(.i .u8)]))]⟩
def H29 : Hint := ⟨[], [(13, some ⟨[(0, false, [.lo 5 [(.i .u8)]]), (54, false, [.i .i64])], [], [], [6, 55, 56, 57, 58, 59, 60, 61, 62], [], [3]⟩), (100003, some ⟨[(0, false, [.lo 5 [(.i .u8)]])], [], [], [10, 11, 12, 13, 14, 15, 16, 17, 18, 19, 20, 21, 22, 23], [], [0]⟩)], [], 12, false⟩
def l29_1 : Vx.T := (.ite (.cm .lss (.iv 6) (.ln 1)) (.rq (.cm .geq (.iv 6) (.n 0)) (.call 48 [(.cv .u64 (.ix 1 (.iv 6) 0))] [] [(.v 4)] 0 0 1 (.nxt [(.ar .add .i64 (.iv 6) (.n 1))] [] [(.v 5)]))) (.brk 3 [(.iv 6)] [] [(.v 4)]))
def k29_2 : Vx.T := (.rq (.cm .eql (.iv 6) (.n 3)) (.call 48 [(.cv .u64 (.iv 1))] [] [(.v 4)] 0 0 1 (.ret [] [] [(.v 5)])))
def t29 : Vx.T := (.jn (.ite (.cm .geq (.iv 0) (.n 256)) (.lst [(.els [[(.i (.n 252))]])] (.rq (.an (.cm .leq (.ln 0) (.n 17592186044416)) (.cm .leq (.ln 2) (.n 17592186044416))) (.lst [(.ap (.v 0) (.v 2))] (.call 48 [(.cv .u64 (.ar .sub .i64 (.iv 0) (.n 256)))] [] [(.v 3)] 0 0 1 (.brk 0 [] [] [(.v 4)]))))) (.lst [(.els [[(.i (.cv .u8 (.iv 0)))]])] (.rq (.an (.cm .leq (.ln 0) (.n 17592186044416)) (.cm .leq (.ln 2) (.n 17592186044416))) (.lst [(.ap (.v 0) (.v 2))] (.brk 0 [] [] [(.v 3)]))))) 0 0 1 (.rq (.cm .eql (.iv 4) (.n 0)) (.call 33 [(.iv 0)] [] [] 1 0 0 (.ite (.cm .eql (.iv 5) (.n 2)) (.call 35 [(.iv 1)] [] [(.v 2)] 1 0 1 (.ret [] [] [(.v 3)])) (.ite (.cm .eql (.iv 5) (.n 3)) (.call 48 [(.cv .u64 (.iv 1))] [] [(.v 2)] 0 0 1 (.ret [] [] [(.v 3)])) (.ite (.cm .eql (.iv 5) (.n 4)) (.call 48 [(.cv .u64 (.ln 1))] [] [(.v 2)] 0 0 1 (.lp [(.n 0)] [] [(.v 3)] 1 0 1 l29_1 k29_2)) (.ite (.cm .eql (.iv 5) (.n 5)) (.call 48 [(.cv .u64 (.iv 1))] [] [(.v 2)] 0 0 1 (.call 48 [(.cv .u64 (.iv 2))] [] [(.v 3)] 0 0 1 (.ret [] [] [(.v 4)]))) (.ite (.cm .eql (.iv 5) (.n 6)) (.lst [(.els [[(.i (.n 0))]])] (.rq (.an (.cm .leq (.ln 2) (.n 17592186044416)) (.cm .leq (.ln 3) (.n 17592186044416))) (.lst [(.ap (.v 2) (.v 3))] (.ret [] [] [(.v 4)])))) (.ite (.cm .eql (.iv 5) (.n 7)) (.lst [(.els [[(.i (.n 0))], [(.i (.n 0))]])] (.rq (.an (.cm .leq (.ln 2) (.n 17592186044416)) (.cm .leq (.ln 3) (.n 17592186044416))) (.lst [(.ap (.v 2) (.v 3))] (.ret [] [] [(.v 4)])))) (.ite (.cm .eql (.iv 5) (.n 8)) (.ite (.cm .eql (.iv 5) (.n 8)) (.call 49 [(.iv 3)] [] [(.v 2)] 0 0 1 (.ret [] [] [(.v 3)])) (.ite (.cm .eql (.iv 5) (.n 10)) (.call 48 [(.cv .u64 (.iv 1))] [] [(.v 2)] 0 0 1 (.lst [(.els [[(.i (.n 0))]])] (.rq (.an (.cm .leq (.ln 3) (.n 17592186044416)) (.cm .leq (.ln 4) (.n 17592186044416))) (.lst [(.ap (.v 3) (.v 4))] (.ret [] [] [(.v 5)]))))) (.ret [] [] [(.v 2)]))) (.ite (.cm .eql (.iv 5) (.n 9)) (.call 49 [(.iv 3)] [] [(.v 2)] 0 0 1 (.ret [] [] [(.v 3)])) (.ite (.cm .eql (.iv 5) (.n 10)) (.call 48 [(.cv .u64 (.iv 1))] [] [(.v 2)] 0 0 1 (.lst [(.els [[(.i (.n 0))]])] (.rq (.an (.cm .leq (.ln 3) (.n 17592186044416)) (.cm .leq (.ln 4) (.n 17592186044416))) (.lst [(.ap (.v 3) (.v 4))] (.ret [] [] [(.v 5)]))))) (.ret [] [] [(.v 2)])))))))))))))
def a29 : Tab := [⟨48, s48, F48⟩, ⟨33, s33, F33⟩, ⟨35, s35, F35⟩, ⟨49, s49, F49⟩]
theorem x29 : sxFn Try.prog (Tab.sig a29) (inlN Try.prog (Tab.sig a29) (hintOf hs) 6) H29 Try.f29 (Try.f29.body.getD .skip) s29 = t29 := by kernel_rfl
theorem e29_48 : Tab.fn a29 48 = F48 := by kernel_rfl
theorem e29_33 : Tab.fn a29 33 = F33 := by kernel_rfl
theorem e29_35 : Tab.fn a29 35 = F35 := by kernel_rfl
theorem e29_49 : Tab.fn a29 49 = F49 := by kernel_rfl
def F29 : Vx.Fn := Vx.Fd t29 (Tab.fn a29)
theorem g29 : Vx.Good Try.prog True_ 29 s29 F29 := good_of_tree hm hI (gcons g48 (gcons g33 (gcons g35 (gcons g49 Tab.Good.nil)))) H29 hs 6 Try.func29 rfl (by kernel_rfl) x29
/-! trammel/instr.Put -/
def s14 : Sig := ⟨[(.v (.lf [(.i .u8)])), (.agg [(.i .i64), (.i .i64), (.i .i64), (.i .i64), (.lf [(.i .i64)])])], [(.v (.lo 5 [(.i .u8)])), (.v (.i .i64))]⟩
def H14 : Hint := ⟨[], [], [], 12, false⟩
def t14 : Vx.T := (.call 16 [(.iv 0), (.iv 1), (.iv 2), (.iv 3)] [] [(.v 1)] 0 1 0 (.ite (.nt (.bv 0)) (.ret [(.n 2)] [] [.nil]) (.call 28 [] [] [(.v 0)] 0 0 1 (.call 29 [(.iv 0), (.iv 1), (.iv 2), (.iv 3)] [] [(.v 2), (.v 1)] 0 0 1 (.ret [(.n 0)] [] [(.v 3)])))))
def a14 : Tab := [⟨16, s16, F16⟩, ⟨28, s28, F28⟩, ⟨29, s29, F29⟩]
theorem x14 : sxFn Try.prog (Tab.sig a14) (inlN Try.prog (Tab.sig a14) (hintOf hs) 6) H14 Try.f14 (Try.f14.body.getD .skip) s14 = t14 := by kernel_rfl
theorem e14_16 : Tab.fn a14 16 = F16 := by kernel_rfl
theorem e14_28 : Tab.fn a14 28 = F28 := by kernel_rfl
theorem e14_29 : Tab.fn a14 29 = F29 := by kernel_rfl
def F14 : Vx.Fn := Vx.Fd t14 (Tab.fn a14)
theorem g14 : Vx.Good Try.prog True_ 14 s14 F14 := good_of_tree hm hI (gcons g16 (gcons g28 (gcons g29 Tab.Good.nil))) H14 hs 6 Try.func14 rfl (by kernel_rfl) x14
/-! trammel/trammelref04.Of -/
def s50 : Sig := ⟨[(.v (.i .i64))], [(.agg [(.i .i64), (.i .i64), (.i .i64), .b, .b]), (.v .b)]⟩
def H50 : Hint := ⟨[], [(4, some ⟨[(3, false, [.b]), (5, false, [.i .i64])], [], [], [26, 27, 28, 29, 30, 31, 32, 33, 34, 35, 36, 37, 38, 39, 40, 41, 42], [], []⟩)], [], 12, false⟩
def l50_1 : Vx.T := (.ite (.cm .lss (.iv 1) (.ln 0)) (.rq (.cm .geq (.iv 1) (.n 0)) (.ite (.cm .eql (.ix 0 (.iv 1) 0) (.iv 0)) (.rt (.ret [(.ix 0 (.iv 1) 0), (.ix 0 (.iv 1) 1), (.ix 0 (.iv 1) 2)] [(.bx 0 (.iv 1) 3), (.bx 0 (.iv 1) 4), (.t true)] [])) (.nxt [(.ar .add .i64 (.iv 1) (.n 1))] [(.bv 0)] []))) (.brk 2 [(.iv 1)] [(.bv 0)] []))
def k50_2 : Vx.T := (.rq (.cm .eql (.iv 1) (.n 2)) (.ret [(.n 0), (.n 0), (.n 0)] [(.t false), (.t false), (.t false)] []))
def t50 : Vx.T := (.lst [(.els [[(.i (.n 40)), (.i (.n 32)), (.i (.n 4)), (.b (.t false)), (.b (.t false))], [(.i (.n 41)), (.i (.n 64)), (.i (.n 8)), (.b (.t false)), (.b (.t false))], [(.i (.n 44)), (.i (.n 32)), (.i (.n 1)), (.b (.t true)), (.b (.t false))], [(.i (.n 45)), (.i (.n 32)), (.i (.n 1)), (.b (.t false)), (.b (.t false))], [(.i (.n 46)), (.i (.n 32)), (.i (.n 2)), (.b (.t true)), (.b (.t false))], [(.i (.n 47)), (.i (.n 32)), (.i (.n 2)), (.b (.t false)), (.b (.t false))], [(.i (.n 48)), (.i (.n 64)), (.i (.n 1)), (.b (.t true)), (.b (.t false))], [(.i (.n 49)), (.i (.n 64)), (.i (.n 1)), (.b (.t false)), (.b (.t false))], [(.i (.n 50)), (.i (.n 64)), (.i (.n 2)), (.b (.t true)), (.b (.t false))], [(.i (.n 51)), (.i (.n 64)), (.i (.n 2)), (.b (.t false)), (.b (.t false))], [(.i (.n 52)), (.i (.n 64)), (.i (.n 4)), (.b (.t true)), (.b (.t false))], [(.i (.n 53)), (.i (.n 64)), (.i (.n 4)), (.b (.t false)), (.b (.t false))], [(.i (.n 54)), (.i (.n 32)), (.i (.n 4)), (.b (.t false)), (.b (.t true))], [(.i (.n 55)), (.i (.n 64)), (.i (.n 8)), (.b (.t false)), (.b (.t true))], [(.i (.n 58)), (.i (.n 32)), (.i (.n 1)), (.b (.t false)), (.b (.t true))], [(.i (.n 59)), (.i (.n 32)), (.i (.n 2)), (.b (.t false)), (.b (.t true))], [(.i (.n 60)), (.i (.n 64)), (.i (.n 1)), (.b (.t false)), (.b (.t true))], [(.i (.n 61)), (.i (.n 64)), (.i (.n 2)), (.b (.t false)), (.b (.t true))], [(.i (.n 62)), (.i (.n 64)), (.i (.n 4)), (.b (.t false)), (.b (.t true))]])] (.lp [(.n 0)] [(.t false)] [] 1 1 0 l50_1 k50_2))
def a50 : Tab := []
theorem x50 : sxFn Try.prog (Tab.sig a50) (inlN Try.prog (Tab.sig a50) (hintOf hs) 6) H50 Try.f50 (Try.f50.body.getD .skip) s50 = t50 := by kernel_rfl
def F50 : Vx.Fn := Vx.Fd t50 (Tab.fn a50)
theorem g50 : Vx.Good Try.prog True_ 50 s50 F50 := good_of_tree hm hI Tab.Good.nil H50 hs 6 Try.func50 rfl (by kernel_rfl) x50
/-! trammel/trammelref03.func32 -/
def s65 : Sig := ⟨[(.v (.i .i64))], [(.v (.i .i64))]⟩
def H65 : Hint := ⟨[], [], [], 12, false⟩
def t65 : Vx.T := (.lb (.an (.cm .geq (.iv 0) (.n 80)) (.cm .leq (.iv 0) (.n 90))) (.lb (.an (.cm .geq (.iv 0) (.n 121)) (.cm .leq (.iv 0) (.n 138))) (.lb (.oo (.oo (.bv 0) (.bv 1)) (.cm .eql (.iv 0) (.n 167))) (.lb (.an (.cm .geq (.iv 0) (.n 194)) (.cm .leq (.iv 0) (.n 196))) (.ite (.oo (.bv 2) (.bv 3)) (.ret [(.n 126)] [] []) (.ret [(.n 127)] [] []))))))
def a65 : Tab := []
theorem x65 : sxFn Try.prog (Tab.sig a65) (inlN Try.prog (Tab.sig a65) (hintOf hs) 6) H65 Try.f65 (Try.f65.body.getD .skip) s65 = t65 := by kernel_rfl
def F65 : Vx.Fn := Vx.Fd t65 (Tab.fn a65)
theorem g65 : Vx.Good Try.prog True_ 65 s65 F65 := good_of_tree hm hI Tab.Good.nil H65 hs 6 Try.func65 rfl (by kernel_rfl) x65
/-! trammel/trammelref03.cut -/
def s74 : Sig := ⟨[(.v (.i .u64)), (.v (.i .i64))], [(.v (.i .u64))]⟩
def H74 : Hint := ⟨[], [], [], 12, false⟩
def t74 : Vx.T := (.ite (.cm .geq (.iv 1) (.n 64)) (.ret [(.iv 0)] [] []) (.rq (.cm .geq (.cv .u64 (.iv 1)) (.n 0)) (.rq (.cm .neq (.ar .shl .u64 (.n 1) (.cv .u64 (.iv 1))) (.n 0)) (.ret [(.ar .rem .u64 (.iv 0) (.ar .shl .u64 (.n 1) (.cv .u64 (.iv 1))))] [] []))))
def a74 : Tab := []
theorem x74 : sxFn Try.prog (Tab.sig a74) (inlN Try.prog (Tab.sig a74) (hintOf hs) 6) H74 Try.f74 (Try.f74.body.getD .skip) s74 = t74 := by kernel_rfl
def F74 : Vx.Fn := Vx.Fd t74 (Tab.fn a74)
theorem g74 : Vx.Good Try.prog True_ 74 s74 F74 := good_of_tree hm hI Tab.Good.nil H74 hs 6 Try.func74 rfl (by kernel_rfl) x74
/-! trammel/trammelref03.one -/
def s75 : Sig := ⟨[(.v .b)], [(.v (.i .u64))]⟩
def H75 : Hint := ⟨[], [], [], 12, false⟩
def t75 : Vx.T := (.ite (.bv 0) (.ret [(.n 1)] [] []) (.ret [(.n 0)] [] []))
def a75 : Tab := []
theorem x75 : sxFn Try.prog (Tab.sig a75) (inlN Try.prog (Tab.sig a75) (hintOf hs) 6) H75 Try.f75 (Try.f75.body.getD .skip) s75 = t75 := by kernel_rfl
def F75 : Vx.Fn := Vx.Fd t75 (Tab.fn a75)
theorem g75 : Vx.Good Try.prog True_ 75 s75 F75 := good_of_tree hm hI Tab.Good.nil H75 hs 6 Try.func75 rfl (by kernel_rfl) x75
/-! trammel/trammelref03.bit -/
def s76 : Sig := ⟨[(.v (.i .u64)), (.v (.i .i64))], [(.v (.i .u64))]⟩
def H76 : Hint := ⟨[], [], [], 12, false⟩
def t76 : Vx.T := (.rq (.cm .geq (.cv .u64 (.iv 1)) (.n 0)) (.ret [(.ar .rem .u64 (.ar .shr .u64 (.iv 0) (.cv .u64 (.iv 1))) (.n 2))] [] []))
def a76 : Tab := []
theorem x76 : sxFn Try.prog (Tab.sig a76) (inlN Try.prog (Tab.sig a76) (hintOf hs) 6) H76 Try.f76 (Try.f76.body.getD .skip) s76 = t76 := by kernel_rfl
def F76 : Vx.Fn := Vx.Fd t76 (Tab.fn a76)
theorem g76 : Vx.Good Try.prog True_ 76 s76 F76 := good_of_tree hm hI Tab.Good.nil H76 hs 6 Try.func76 rfl (by kernel_rfl) x76
/-! trammel/trammelref03.spread -/
def s77 : Sig := ⟨[(.v (.i .u64)), (.v (.i .i64)), (.v (.i .i64))], [(.v (.i .u64))]⟩
def H77 : Hint := ⟨[], [(4, some ⟨[(7, false, [.i .u64]), (8, false, [.i .i64])], [], [], [9, 12, 13, 14, 15, 16, 17, 18, 19, 20, 21, 22, 23, 24, 25, 26, 27], [], []⟩)], [], 12, false⟩
def l77_1 : Vx.T := (.ite (.cm .geq (.iv 4) (.n 0)) (.ite (.cm .geq (.iv 4) (.iv 1)) (.call 76 [(.iv 0), (.ar .sub .i64 (.iv 1) (.n 1))] [] [] 1 0 0 (.nxt [(.ar .add .u64 (.ar .mul .u64 (.iv 3) (.n 2)) (.iv 5)), (.ar .sub .i64 (.iv 4) (.n 1))] [] [])) (.call 76 [(.iv 0), (.iv 4)] [] [] 1 0 0 (.nxt [(.ar .add .u64 (.ar .mul .u64 (.iv 3) (.n 2)) (.iv 5)), (.ar .sub .i64 (.iv 4) (.n 1))] [] []))) (.brk 2 [(.iv 3), (.iv 4)] [] []))
def k77_2 : Vx.T := (.rq (.cm .eql (.iv 3) (.n 2)) (.ret [(.iv 4)] [] []))
def t77 : Vx.T := (.lp [(.n 0), (.ar .sub .i64 (.iv 2) (.n 1))] [] [] 2 0 0 l77_1 k77_2)
def a77 : Tab := [⟨76, s76, F76⟩]
theorem x77 : sxFn Try.prog (Tab.sig a77) (inlN Try.prog (Tab.sig a77) (hintOf hs) 6) H77 Try.f77 (Try.f77.body.getD .skip) s77 = t77 := by kernel_rfl
theorem e77_76 : Tab.fn a77 76 = F76 := by kernel_rfl
def F77 : Vx.Fn := Vx.Fd t77 (Tab.fn a77)
theorem g77 : Vx.Good Try.prog True_ 77 s77 F77 := good_of_tree hm hI (gcons g76 Tab.Good.nil) H77 hs 6 Try.func77 rfl (by kernel_rfl) x77
/-! trammel/trammelref03.Un -/
def s66 : Sig := ⟨[(.v (.i .i64)), (.v (.i .u64))], [(.v (.i .u64)), (.v .b)]⟩
def H66 : Hint := ⟨[], [(15, some ⟨[(8, false, [.i .u64]), (9, false, [.i .i64]), (32, false, [.b])], [], [], [34, 37, 38, 39, 40, 41, 42, 43, 44, 45, 46, 47, 48], [], []⟩), (21, some ⟨[(8, false, [.i .u64]), (10, false, [.i .i64]), (49, false, [.b])], [], [], [51, 52, 53, 54, 55, 56, 57, 58, 59, 60, 61, 62, 63, 64], [], []⟩), (27, some ⟨[(8, false, [.i .u64]), (11, false, [.i .i64]), (65, false, [.b])], [], [], [67, 68, 69, 70, 71, 72, 73, 74, 75, 76, 77], [], []⟩)], [], 12, false⟩
def l66_1 : Vx.T := (.ite (.cm .geq (.iv 4) (.n 0)) (.call 76 [(.iv 2), (.iv 4)] [] [] 1 0 0 (.ite (.cm .eql (.iv 5) (.n 0)) (.nxt [(.ar .add .u64 (.iv 3) (.n 1)), (.ar .sub .i64 (.iv 4) (.n 1))] [(.bv 1)] []) (.brk 3 [(.iv 3), (.iv 4)] [(.bv 1)] []))) (.brk 3 [(.iv 3), (.iv 4)] [(.bv 1)] []))
def k66_2 : Vx.T := (.rq (.cm .eql (.iv 3) (.n 3)) (.ret [(.iv 4)] [(.t true)] []))
def b66_1 : Vx.T := (.call 76 [(.iv 2), (.iv 4)] [] [] 1 0 0 (.ite (.cm .eql (.iv 5) (.n 0)) (.nxt [(.ar .add .u64 (.iv 3) (.n 1)), (.ar .add .i64 (.iv 4) (.n 1))] [(.bv 1)] []) (.brk 5 [(.iv 3), (.iv 4)] [(.bv 1)] [])))
def l66_3 : Vx.T := (.ite (.cm .lss (.iv 4) (.n 64)) b66_1 (.brk 5 [(.iv 3), (.iv 4)] [(.bv 1)] []))
def k66_4 : Vx.T := (.rq (.cm .eql (.iv 3) (.n 5)) (.ret [(.iv 4)] [(.t true)] []))
def l66_5 : Vx.T := (.ite (.cm .lss (.iv 4) (.n 64)) (.call 76 [(.iv 2), (.iv 4)] [] [] 1 0 0 (.nxt [(.ar .add .u64 (.iv 3) (.iv 5)), (.ar .add .i64 (.iv 4) (.n 1))] [(.bv 1)] [])) (.brk 7 [(.iv 3), (.iv 4)] [(.bv 1)] []))
def k66_6 : Vx.T := (.rq (.cm .eql (.iv 3) (.n 7)) (.ret [(.iv 4)] [(.t true)] []))
def l66_7 : Vx.T := (.ite (.cm .lss (.iv 4) (.n 64)) (.call 76 [(.iv 2), (.iv 4)] [] [] 1 0 0 (.nxt [(.ar .add .u64 (.iv 3) (.iv 5)), (.ar .add .i64 (.iv 4) (.n 1))] [(.bv 1)] [])) (.brk 7 [(.iv 3), (.iv 4)] [(.bv 1)] []))
def k66_8 : Vx.T := (.rq (.cm .eql (.iv 3) (.n 7)) (.ret [(.iv 4)] [(.t true)] []))
def l66_9 : Vx.T := (.ite (.cm .lss (.iv 4) (.n 64)) b66_1 (.brk 5 [(.iv 3), (.iv 4)] [(.bv 1)] []))
def k66_10 : Vx.T := (.rq (.cm .eql (.iv 3) (.n 5)) (.ret [(.iv 4)] [(.t true)] []))
def l66_11 : Vx.T := (.ite (.cm .lss (.iv 4) (.n 64)) (.call 76 [(.iv 2), (.iv 4)] [] [] 1 0 0 (.nxt [(.ar .add .u64 (.iv 3) (.iv 5)), (.ar .add .i64 (.iv 4) (.n 1))] [(.bv 1)] [])) (.brk 7 [(.iv 3), (.iv 4)] [(.bv 1)] []))
def k66_12 : Vx.T := (.rq (.cm .eql (.iv 3) (.n 7)) (.ret [(.iv 4)] [(.t true)] []))
def l66_13 : Vx.T := (.ite (.cm .lss (.iv 4) (.n 64)) (.call 76 [(.iv 2), (.iv 4)] [] [] 1 0 0 (.nxt [(.ar .add .u64 (.iv 3) (.iv 5)), (.ar .add .i64 (.iv 4) (.n 1))] [(.bv 1)] [])) (.brk 7 [(.iv 3), (.iv 4)] [(.bv 1)] []))
def k66_14 : Vx.T := (.rq (.cm .eql (.iv 3) (.n 7)) (.ret [(.iv 4)] [(.t true)] []))
def l66_15 : Vx.T := (.ite (.cm .geq (.iv 4) (.n 0)) (.call 76 [(.iv 2), (.iv 4)] [] [] 1 0 0 (.ite (.cm .eql (.iv 5) (.n 0)) (.nxt [(.ar .add .u64 (.iv 3) (.n 1)), (.ar .sub .i64 (.iv 4) (.n 1))] [(.bv 1)] []) (.brk 3 [(.iv 3), (.iv 4)] [(.bv 1)] []))) (.brk 3 [(.iv 3), (.iv 4)] [(.bv 1)] []))
def k66_16 : Vx.T := (.rq (.cm .eql (.iv 3) (.n 3)) (.ret [(.iv 4)] [(.t true)] []))
def l66_17 : Vx.T := (.ite (.cm .lss (.iv 4) (.n 64)) b66_1 (.brk 5 [(.iv 3), (.iv 4)] [(.bv 1)] []))
def k66_18 : Vx.T := (.rq (.cm .eql (.iv 3) (.n 5)) (.ret [(.iv 4)] [(.t true)] []))
def l66_19 : Vx.T := (.ite (.cm .lss (.iv 4) (.n 64)) (.call 76 [(.iv 2), (.iv 4)] [] [] 1 0 0 (.nxt [(.ar .add .u64 (.iv 3) (.iv 5)), (.ar .add .i64 (.iv 4) (.n 1))] [(.bv 1)] [])) (.brk 7 [(.iv 3), (.iv 4)] [(.bv 1)] []))
def k66_20 : Vx.T := (.rq (.cm .eql (.iv 3) (.n 7)) (.ret [(.iv 4)] [(.t true)] []))
def l66_21 : Vx.T := (.ite (.cm .lss (.iv 4) (.n 64)) (.call 76 [(.iv 2), (.iv 4)] [] [] 1 0 0 (.nxt [(.ar .add .u64 (.iv 3) (.iv 5)), (.ar .add .i64 (.iv 4) (.n 1))] [(.bv 1)] [])) (.brk 7 [(.iv 3), (.iv 4)] [(.bv 1)] []))
def k66_22 : Vx.T := (.rq (.cm .eql (.iv 3) (.n 7)) (.ret [(.iv 4)] [(.t true)] []))
def l66_23 : Vx.T := (.ite (.cm .lss (.iv 4) (.n 64)) b66_1 (.brk 5 [(.iv 3), (.iv 4)] [(.bv 1)] []))
def k66_24 : Vx.T := (.rq (.cm .eql (.iv 3) (.n 5)) (.ret [(.iv 4)] [(.t true)] []))
def l66_25 : Vx.T := (.ite (.cm .lss (.iv 4) (.n 64)) (.call 76 [(.iv 2), (.iv 4)] [] [] 1 0 0 (.nxt [(.ar .add .u64 (.iv 3) (.iv 5)), (.ar .add .i64 (.iv 4) (.n 1))] [(.bv 1)] [])) (.brk 7 [(.iv 3), (.iv 4)] [(.bv 1)] []))
def k66_26 : Vx.T := (.rq (.cm .eql (.iv 3) (.n 7)) (.ret [(.iv 4)] [(.t true)] []))
def l66_27 : Vx.T := (.ite (.cm .lss (.iv 4) (.n 64)) (.call 76 [(.iv 2), (.iv 4)] [] [] 1 0 0 (.nxt [(.ar .add .u64 (.iv 3) (.iv 5)), (.ar .add .i64 (.iv 4) (.n 1))] [(.bv 1)] [])) (.brk 7 [(.iv 3), (.iv 4)] [(.bv 1)] []))
def k66_28 : Vx.T := (.rq (.cm .eql (.iv 3) (.n 7)) (.ret [(.iv 4)] [(.t true)] []))
def l66_29 : Vx.T := (.ite (.cm .geq (.iv 4) (.n 0)) (.call 76 [(.iv 2), (.iv 4)] [] [] 1 0 0 (.ite (.cm .eql (.iv 5) (.n 0)) (.nxt [(.ar .add .u64 (.iv 3) (.n 1)), (.ar .sub .i64 (.iv 4) (.n 1))] [(.bv 1)] []) (.brk 3 [(.iv 3), (.iv 4)] [(.bv 1)] []))) (.brk 3 [(.iv 3), (.iv 4)] [(.bv 1)] []))
def k66_30 : Vx.T := (.rq (.cm .eql (.iv 3) (.n 3)) (.ret [(.iv 4)] [(.t true)] []))
def l66_31 : Vx.T := (.ite (.cm .lss (.iv 4) (.n 64)) b66_1 (.brk 5 [(.iv 3), (.iv 4)] [(.bv 1)] []))
def k66_32 : Vx.T := (.rq (.cm .eql (.iv 3) (.n 5)) (.ret [(.iv 4)] [(.t true)] []))
def l66_33 : Vx.T := (.ite (.cm .lss (.iv 4) (.n 64)) (.call 76 [(.iv 2), (.iv 4)] [] [] 1 0 0 (.nxt [(.ar .add .u64 (.iv 3) (.iv 5)), (.ar .add .i64 (.iv 4) (.n 1))] [(.bv 1)] [])) (.brk 7 [(.iv 3), (.iv 4)] [(.bv 1)] []))
def k66_34 : Vx.T := (.rq (.cm .eql (.iv 3) (.n 7)) (.ret [(.iv 4)] [(.t true)] []))
def l66_35 : Vx.T := (.ite (.cm .lss (.iv 4) (.n 64)) (.call 76 [(.iv 2), (.iv 4)] [] [] 1 0 0 (.nxt [(.ar .add .u64 (.iv 3) (.iv 5)), (.ar .add .i64 (.iv 4) (.n 1))] [(.bv 1)] [])) (.brk 7 [(.iv 3), (.iv 4)] [(.bv 1)] []))
def k66_36 : Vx.T := (.rq (.cm .eql (.iv 3) (.n 7)) (.ret [(.iv 4)] [(.t true)] []))
def l66_37 : Vx.T := (.ite (.cm .lss (.iv 4) (.n 64)) b66_1 (.brk 5 [(.iv 3), (.iv 4)] [(.bv 1)] []))
def k66_38 : Vx.T := (.rq (.cm .eql (.iv 3) (.n 5)) (.ret [(.iv 4)] [(.t true)] []))
def l66_39 : Vx.T := (.ite (.cm .lss (.iv 4) (.n 64)) (.call 76 [(.iv 2), (.iv 4)] [] [] 1 0 0 (.nxt [(.ar .add .u64 (.iv 3) (.iv 5)), (.ar .add .i64 (.iv 4) (.n 1))] [(.bv 1)] [])) (.brk 7 [(.iv 3), (.iv 4)] [(.bv 1)] []))
def k66_40 : Vx.T := (.rq (.cm .eql (.iv 3) (.n 7)) (.ret [(.iv 4)] [(.t true)] []))
def l66_41 : Vx.T := (.ite (.cm .lss (.iv 4) (.n 64)) (.call 76 [(.iv 2), (.iv 4)] [] [] 1 0 0 (.nxt [(.ar .add .u64 (.iv 3) (.iv 5)), (.ar .add .i64 (.iv 4) (.n 1))] [(.bv 1)] [])) (.brk 7 [(.iv 3), (.iv 4)] [(.bv 1)] []))
def k66_42 : Vx.T := (.rq (.cm .eql (.iv 3) (.n 7)) (.ret [(.iv 4)] [(.t true)] []))
def l66_43 : Vx.T := (.ite (.cm .geq (.iv 4) (.n 0)) (.call 76 [(.iv 2), (.iv 4)] [] [] 1 0 0 (.ite (.cm .eql (.iv 5) (.n 0)) (.nxt [(.ar .add .u64 (.iv 3) (.n 1)), (.ar .sub .i64 (.iv 4) (.n 1))] [(.bv 1)] []) (.brk 3 [(.iv 3), (.iv 4)] [(.bv 1)] []))) (.brk 3 [(.iv 3), (.iv 4)] [(.bv 1)] []))
def k66_44 : Vx.T := (.rq (.cm .eql (.iv 3) (.n 3)) (.ret [(.iv 4)] [(.t true)] []))
def l66_45 : Vx.T := (.ite (.cm .lss (.iv 4) (.n 64)) b66_1 (.brk 5 [(.iv 3), (.iv 4)] [(.bv 1)] []))
def k66_46 : Vx.T := (.rq (.cm .eql (.iv 3) (.n 5)) (.ret [(.iv 4)] [(.t true)] []))
def l66_47 : Vx.T := (.ite (.cm .lss (.iv 4) (.n 64)) (.call 76 [(.iv 2), (.iv 4)] [] [] 1 0 0 (.nxt [(.ar .add .u64 (.iv 3) (.iv 5)), (.ar .add .i64 (.iv 4) (.n 1))] [(.bv 1)] [])) (.brk 7 [(.iv 3), (.iv 4)] [(.bv 1)] []))
def k66_48 : Vx.T := (.rq (.cm .eql (.iv 3) (.n 7)) (.ret [(.iv 4)] [(.t true)] []))
def l66_49 : Vx.T := (.ite (.cm .lss (.iv 4) (.n 64)) (.call 76 [(.iv 2), (.iv 4)] [] [] 1 0 0 (.nxt [(.ar .add .u64 (.iv 3) (.iv 5)), (.ar .add .i64 (.iv 4) (.n 1))] [(.bv 1)] [])) (.brk 7 [(.iv 3), (.iv 4)] [(.bv 1)] []))
def k66_50 : Vx.T := (.rq (.cm .eql (.iv 3) (.n 7)) (.ret [(.iv 4)] [(.t true)] []))
def l66_51 : Vx.T := (.ite (.cm .lss (.iv 4) (.n 64)) b66_1 (.brk 5 [(.iv 3), (.iv 4)] [(.bv 1)] []))
def k66_52 : Vx.T := (.rq (.cm .eql (.iv 3) (.n 5)) (.ret [(.iv 4)] [(.t true)] []))
def l66_53 : Vx.T := (.ite (.cm .lss (.iv 4) (.n 64)) (.call 76 [(.iv 2), (.iv 4)] [] [] 1 0 0 (.nxt [(.ar .add .u64 (.iv 3) (.iv 5)), (.ar .add .i64 (.iv 4) (.n 1))] [(.bv 1)] [])) (.brk 7 [(.iv 3), (.iv 4)] [(.bv 1)] []))
def k66_54 : Vx.T := (.rq (.cm .eql (.iv 3) (.n 7)) (.ret [(.iv 4)] [(.t true)] []))
def l66_55 : Vx.T := (.ite (.cm .lss (.iv 4) (.n 64)) (.call 76 [(.iv 2), (.iv 4)] [] [] 1 0 0 (.nxt [(.ar .add .u64 (.iv 3) (.iv 5)), (.ar .add .i64 (.iv 4) (.n 1))] [(.bv 1)] [])) (.brk 7 [(.iv 3), (.iv 4)] [(.bv 1)] []))
def k66_56 : Vx.T := (.rq (.cm .eql (.iv 3) (.n 7)) (.ret [(.iv 4)] [(.t true)] []))
def l66_57 : Vx.T := (.ite (.cm .geq (.iv 4) (.n 0)) (.call 76 [(.iv 2), (.iv 4)] [] [] 1 0 0 (.ite (.cm .eql (.iv 5) (.n 0)) (.nxt [(.ar .add .u64 (.iv 3) (.n 1)), (.ar .sub .i64 (.iv 4) (.n 1))] [(.bv 1)] []) (.brk 3 [(.iv 3), (.iv 4)] [(.bv 1)] []))) (.brk 3 [(.iv 3), (.iv 4)] [(.bv 1)] []))
def k66_58 : Vx.T := (.rq (.cm .eql (.iv 3) (.n 3)) (.ret [(.iv 4)] [(.t true)] []))
def l66_59 : Vx.T := (.ite (.cm .lss (.iv 4) (.n 32)) b66_1 (.brk 5 [(.iv 3), (.iv 4)] [(.bv 1)] []))
def k66_60 : Vx.T := (.rq (.cm .eql (.iv 3) (.n 5)) (.ret [(.iv 4)] [(.t true)] []))
def l66_61 : Vx.T := (.ite (.cm .lss (.iv 4) (.n 32)) (.call 76 [(.iv 2), (.iv 4)] [] [] 1 0 0 (.nxt [(.ar .add .u64 (.iv 3) (.iv 5)), (.ar .add .i64 (.iv 4) (.n 1))] [(.bv 1)] [])) (.brk 7 [(.iv 3), (.iv 4)] [(.bv 1)] []))
def k66_62 : Vx.T := (.rq (.cm .eql (.iv 3) (.n 7)) (.ret [(.iv 4)] [(.t true)] []))
def l66_63 : Vx.T := (.ite (.cm .lss (.iv 4) (.n 32)) (.call 76 [(.iv 2), (.iv 4)] [] [] 1 0 0 (.nxt [(.ar .add .u64 (.iv 3) (.iv 5)), (.ar .add .i64 (.iv 4) (.n 1))] [(.bv 1)] [])) (.brk 7 [(.iv 3), (.iv 4)] [(.bv 1)] []))
def k66_64 : Vx.T := (.rq (.cm .eql (.iv 3) (.n 7)) (.ret [(.iv 4)] [(.t true)] []))
def l66_65 : Vx.T := (.ite (.cm .lss (.iv 4) (.n 32)) b66_1 (.brk 5 [(.iv 3), (.iv 4)] [(.bv 1)] []))
def k66_66 : Vx.T := (.rq (.cm .eql (.iv 3) (.n 5)) (.ret [(.iv 4)] [(.t true)] []))
def l66_67 : Vx.T := (.ite (.cm .lss (.iv 4) (.n 32)) (.call 76 [(.iv 2), (.iv 4)] [] [] 1 0 0 (.nxt [(.ar .add .u64 (.iv 3) (.iv 5)), (.ar .add .i64 (.iv 4) (.n 1))] [(.bv 1)] [])) (.brk 7 [(.iv 3), (.iv 4)] [(.bv 1)] []))
def k66_68 : Vx.T := (.rq (.cm .eql (.iv 3) (.n 7)) (.ret [(.iv 4)] [(.t true)] []))
def l66_69 : Vx.T := (.ite (.cm .lss (.iv 4) (.n 32)) (.call 76 [(.iv 2), (.iv 4)] [] [] 1 0 0 (.nxt [(.ar .add .u64 (.iv 3) (.iv 5)), (.ar .add .i64 (.iv 4) (.n 1))] [(.bv 1)] [])) (.brk 7 [(.iv 3), (.iv 4)] [(.bv 1)] []))
def k66_70 : Vx.T := (.rq (.cm .eql (.iv 3) (.n 7)) (.ret [(.iv 4)] [(.t true)] []))
def l66_71 : Vx.T := (.ite (.cm .geq (.iv 4) (.n 0)) (.call 76 [(.iv 2), (.iv 4)] [] [] 1 0 0 (.ite (.cm .eql (.iv 5) (.n 0)) (.nxt [(.ar .add .u64 (.iv 3) (.n 1)), (.ar .sub .i64 (.iv 4) (.n 1))] [(.bv 1)] []) (.brk 3 [(.iv 3), (.iv 4)] [(.bv 1)] []))) (.brk 3 [(.iv 3), (.iv 4)] [(.bv 1)] []))
def k66_72 : Vx.T := (.rq (.cm .eql (.iv 3) (.n 3)) (.ret [(.iv 4)] [(.t true)] []))
def l66_73 : Vx.T := (.ite (.cm .lss (.iv 4) (.n 32)) b66_1 (.brk 5 [(.iv 3), (.iv 4)] [(.bv 1)] []))
def k66_74 : Vx.T := (.rq (.cm .eql (.iv 3) (.n 5)) (.ret [(.iv 4)] [(.t true)] []))
def l66_75 : Vx.T := (.ite (.cm .lss (.iv 4) (.n 32)) (.call 76 [(.iv 2), (.iv 4)] [] [] 1 0 0 (.nxt [(.ar .add .u64 (.iv 3) (.iv 5)), (.ar .add .i64 (.iv 4) (.n 1))] [(.bv 1)] [])) (.brk 7 [(.iv 3), (.iv 4)] [(.bv 1)] []))
def k66_76 : Vx.T := (.rq (.cm .eql (.iv 3) (.n 7)) (.ret [(.iv 4)] [(.t true)] []))
def l66_77 : Vx.T := (.ite (.cm .lss (.iv 4) (.n 32)) (.call 76 [(.iv 2), (.iv 4)] [] [] 1 0 0 (.nxt [(.ar .add .u64 (.iv 3) (.iv 5)), (.ar .add .i64 (.iv 4) (.n 1))] [(.bv 1)] [])) (.brk 7 [(.iv 3), (.iv 4)] [(.bv 1)] []))
def k66_78 : Vx.T := (.rq (.cm .eql (.iv 3) (.n 7)) (.ret [(.iv 4)] [(.t true)] []))
def l66_79 : Vx.T := (.ite (.cm .lss (.iv 4) (.n 32)) b66_1 (.brk 5 [(.iv 3), (.iv 4)] [(.bv 1)] []))
def k66_80 : Vx.T := (.rq (.cm .eql (.iv 3) (.n 5)) (.ret [(.iv 4)] [(.t true)] []))
def l66_81 : Vx.T := (.ite (.cm .lss (.iv 4) (.n 32)) (.call 76 [(.iv 2), (.iv 4)] [] [] 1 0 0 (.nxt [(.ar .add .u64 (.iv 3) (.iv 5)), (.ar .add .i64 (.iv 4) (.n 1))] [(.bv 1)] [])) (.brk 7 [(.iv 3), (.iv 4)] [(.bv 1)] []))
def k66_82 : Vx.T := (.rq (.cm .eql (.iv 3) (.n 7)) (.ret [(.iv 4)] [(.t true)] []))
def l66_83 : Vx.T := (.ite (.cm .lss (.iv 4) (.n 32)) (.call 76 [(.iv 2), (.iv 4)] [] [] 1 0 0 (.nxt [(.ar .add .u64 (.iv 3) (.iv 5)), (.ar .add .i64 (.iv 4) (.n 1))] [(.bv 1)] [])) (.brk 7 [(.iv 3), (.iv 4)] [(.bv 1)] []))
def k66_84 : Vx.T := (.rq (.cm .eql (.iv 3) (.n 7)) (.ret [(.iv 4)] [(.t true)] []))
def l66_85 : Vx.T := (.ite (.cm .geq (.iv 4) (.n 0)) (.call 76 [(.iv 2), (.iv 4)] [] [] 1 0 0 (.ite (.cm .eql (.iv 5) (.n 0)) (.nxt [(.ar .add .u64 (.iv 3) (.n 1)), (.ar .sub .i64 (.iv 4) (.n 1))] [(.bv 1)] []) (.brk 3 [(.iv 3), (.iv 4)] [(.bv 1)] []))) (.brk 3 [(.iv 3), (.iv 4)] [(.bv 1)] []))
def k66_86 : Vx.T := (.rq (.cm .eql (.iv 3) (.n 3)) (.ret [(.iv 4)] [(.t true)] []))
def l66_87 : Vx.T := (.ite (.cm .lss (.iv 4) (.n 32)) b66_1 (.brk 5 [(.iv 3), (.iv 4)] [(.bv 1)] []))
def k66_88 : Vx.T := (.rq (.cm .eql (.iv 3) (.n 5)) (.ret [(.iv 4)] [(.t true)] []))
def l66_89 : Vx.T := (.ite (.cm .lss (.iv 4) (.n 32)) (.call 76 [(.iv 2), (.iv 4)] [] [] 1 0 0 (.nxt [(.ar .add .u64 (.iv 3) (.iv 5)), (.ar .add .i64 (.iv 4) (.n 1))] [(.bv 1)] [])) (.brk 7 [(.iv 3), (.iv 4)] [(.bv 1)] []))
def k66_90 : Vx.T := (.rq (.cm .eql (.iv 3) (.n 7)) (.ret [(.iv 4)] [(.t true)] []))
def l66_91 : Vx.T := (.ite (.cm .lss (.iv 4) (.n 32)) (.call 76 [(.iv 2), (.iv 4)] [] [] 1 0 0 (.nxt [(.ar .add .u64 (.iv 3) (.iv 5)), (.ar .add .i64 (.iv 4) (.n 1))] [(.bv 1)] [])) (.brk 7 [(.iv 3), (.iv 4)] [(.bv 1)] []))
def k66_92 : Vx.T := (.rq (.cm .eql (.iv 3) (.n 7)) (.ret [(.iv 4)] [(.t true)] []))
def l66_93 : Vx.T := (.ite (.cm .lss (.iv 4) (.n 32)) b66_1 (.brk 5 [(.iv 3), (.iv 4)] [(.bv 1)] []))
def k66_94 : Vx.T := (.rq (.cm .eql (.iv 3) (.n 5)) (.ret [(.iv 4)] [(.t true)] []))
def l66_95 : Vx.T := (.ite (.cm .lss (.iv 4) (.n 32)) (.call 76 [(.iv 2), (.iv 4)] [] [] 1 0 0 (.nxt [(.ar .add .u64 (.iv 3) (.iv 5)), (.ar .add .i64 (.iv 4) (.n 1))] [(.bv 1)] [])) (.brk 7 [(.iv 3), (.iv 4)] [(.bv 1)] []))
def k66_96 : Vx.T := (.rq (.cm .eql (.iv 3) (.n 7)) (.ret [(.iv 4)] [(.t true)] []))
def l66_97 : Vx.T := (.ite (.cm .lss (.iv 4) (.n 32)) (.call 76 [(.iv 2), (.iv 4)] [] [] 1 0 0 (.nxt [(.ar .add .u64 (.iv 3) (.iv 5)), (.ar .add .i64 (.iv 4) (.n 1))] [(.bv 1)] [])) (.brk 7 [(.iv 3), (.iv 4)] [(.bv 1)] []))
def k66_98 : Vx.T := (.rq (.cm .eql (.iv 3) (.n 7)) (.ret [(.iv 4)] [(.t true)] []))
def l66_99 : Vx.T := (.ite (.cm .geq (.iv 4) (.n 0)) (.call 76 [(.iv 2), (.iv 4)] [] [] 1 0 0 (.ite (.cm .eql (.iv 5) (.n 0)) (.nxt [(.ar .add .u64 (.iv 3) (.n 1)), (.ar .sub .i64 (.iv 4) (.n 1))] [(.bv 1)] []) (.brk 3 [(.iv 3), (.iv 4)] [(.bv 1)] []))) (.brk 3 [(.iv 3), (.iv 4)] [(.bv 1)] []))
def k66_100 : Vx.T := (.rq (.cm .eql (.iv 3) (.n 3)) (.ret [(.iv 4)] [(.t true)] []))
def l66_101 : Vx.T := (.ite (.cm .lss (.iv 4) (.n 32)) b66_1 (.brk 5 [(.iv 3), (.iv 4)] [(.bv 1)] []))
def k66_102 : Vx.T := (.rq (.cm .eql (.iv 3) (.n 5)) (.ret [(.iv 4)] [(.t true)] []))
def l66_103 : Vx.T := (.ite (.cm .lss (.iv 4) (.n 32)) (.call 76 [(.iv 2), (.iv 4)] [] [] 1 0 0 (.nxt [(.ar .add .u64 (.iv 3) (.iv 5)), (.ar .add .i64 (.iv 4) (.n 1))] [(.bv 1)] [])) (.brk 7 [(.iv 3), (.iv 4)] [(.bv 1)] []))
def k66_104 : Vx.T := (.rq (.cm .eql (.iv 3) (.n 7)) (.ret [(.iv 4)] [(.t true)] []))
def l66_105 : Vx.T := (.ite (.cm .lss (.iv 4) (.n 32)) (.call 76 [(.iv 2), (.iv 4)] [] [] 1 0 0 (.nxt [(.ar .add .u64 (.iv 3) (.iv 5)), (.ar .add .i64 (.iv 4) (.n 1))] [(.bv 1)] [])) (.brk 7 [(.iv 3), (.iv 4)] [(.bv 1)] []))
def k66_106 : Vx.T := (.rq (.cm .eql (.iv 3) (.n 7)) (.ret [(.iv 4)] [(.t true)] []))
def l66_107 : Vx.T := (.ite (.cm .lss (.iv 4) (.n 32)) b66_1 (.brk 5 [(.iv 3), (.iv 4)] [(.bv 1)] []))
def k66_108 : Vx.T := (.rq (.cm .eql (.iv 3) (.n 5)) (.ret [(.iv 4)] [(.t true)] []))
def l66_109 : Vx.T := (.ite (.cm .lss (.iv 4) (.n 32)) (.call 76 [(.iv 2), (.iv 4)] [] [] 1 0 0 (.nxt [(.ar .add .u64 (.iv 3) (.iv 5)), (.ar .add .i64 (.iv 4) (.n 1))] [(.bv 1)] [])) (.brk 7 [(.iv 3), (.iv 4)] [(.bv 1)] []))
def k66_110 : Vx.T := (.rq (.cm .eql (.iv 3) (.n 7)) (.ret [(.iv 4)] [(.t true)] []))
def l66_111 : Vx.T := (.ite (.cm .lss (.iv 4) (.n 32)) (.call 76 [(.iv 2), (.iv 4)] [] [] 1 0 0 (.nxt [(.ar .add .u64 (.iv 3) (.iv 5)), (.ar .add .i64 (.iv 4) (.n 1))] [(.bv 1)] [])) (.brk 7 [(.iv 3), (.iv 4)] [(.bv 1)] []))
def k66_112 : Vx.T := (.rq (.cm .eql (.iv 3) (.n 7)) (.ret [(.iv 4)] [(.t true)] []))
def b66_2 : Vx.T := (.ite (.cm .eql (.iv 0) (.n 192)) (.call 77 [(.iv 1), (.n 8), (.n 32)] [] [] 1 0 0 (.ret [(.iv 3)] [(.t true)] [])) (.ite (.cm .eql (.iv 0) (.n 193)) (.call 77 [(.iv 1), (.n 16), (.n 32)] [] [] 1 0 0 (.ret [(.iv 3)] [(.t true)] [])) (.ite (.cm .eql (.iv 0) (.n 194)) (.call 77 [(.iv 1), (.n 8), (.n 64)] [] [] 1 0 0 (.ret [(.iv 3)] [(.t true)] [])) (.ite (.cm .eql (.iv 0) (.n 195)) (.call 77 [(.iv 1), (.n 16), (.n 64)] [] [] 1 0 0 (.ret [(.iv 3)] [(.t true)] [])) (.ret [(.n 0)] [(.t false)] [])))))
def b66_3 : Vx.T := (.ite (.cm .eql (.iv 0) (.n 172)) (.ite (.cm .eql (.iv 0) (.n 172)) (.call 77 [(.iv 1), (.n 32), (.n 64)] [] [] 1 0 0 (.ret [(.iv 3)] [(.t true)] [])) b66_2) (.ite (.cm .eql (.iv 0) (.n 196)) (.call 77 [(.iv 1), (.n 32), (.n 64)] [] [] 1 0 0 (.ret [(.iv 3)] [(.t true)] [])) b66_2))
def b66_4 : Vx.T := (.ite (.cm .eql (.iv 0) (.n 167)) (.ite (.cm .eql (.iv 0) (.n 167)) (.call 74 [(.iv 1), (.n 32)] [] [] 1 0 0 (.ret [(.iv 3)] [(.t true)] [])) b66_3) (.ite (.cm .eql (.iv 0) (.n 173)) (.call 74 [(.iv 1), (.n 32)] [] [] 1 0 0 (.ret [(.iv 3)] [(.t true)] [])) b66_3))
def t66 : Vx.T := (.lb (.an (.cm .geq (.iv 0) (.n 121)) (.cm .leq (.iv 0) (.n 123))) (.ite (.oo (.bv 0) (.cm .eql (.iv 0) (.n 80))) (.call 74 [(.iv 1), (.n 64)] [] [] 1 0 0 (.ite (.cm .eql (.iv 0) (.n 69)) (.ite (.cm .eql (.iv 0) (.n 69)) (.call 75 [] [(.cm .eql (.iv 2) (.n 0))] [] 1 0 0 (.ret [(.iv 3)] [(.t true)] [])) (.ite (.cm .eql (.iv 0) (.n 103)) (.ite (.cm .eql (.iv 0) (.n 103)) (.lp [(.n 0), (.n 63)] [(.cm .eql (.iv 0) (.n 103))] [] 2 1 0 l66_1 k66_2) (.ite (.cm .eql (.iv 0) (.n 104)) (.ite (.cm .eql (.iv 0) (.n 104)) (.lp [(.n 0), (.n 0)] [(.cm .eql (.iv 0) (.n 104))] [] 2 1 0 l66_3 k66_4) (.ite (.cm .eql (.iv 0) (.n 105)) (.ite (.cm .eql (.iv 0) (.n 105)) (.lp [(.n 0), (.n 0)] [(.cm .eql (.iv 0) (.n 105))] [] 2 1 0 l66_5 k66_6) b66_4) (.ite (.cm .eql (.iv 0) (.n 123)) (.lp [(.n 0), (.n 0)] [(.cm .eql (.iv 0) (.n 123))] [] 2 1 0 l66_7 k66_8) b66_4))) (.ite (.cm .eql (.iv 0) (.n 122)) (.lp [(.n 0), (.n 0)] [(.cm .eql (.iv 0) (.n 122))] [] 2 1 0 l66_9 k66_10) (.ite (.cm .eql (.iv 0) (.n 105)) (.ite (.cm .eql (.iv 0) (.n 105)) (.lp [(.n 0), (.n 0)] [(.cm .eql (.iv 0) (.n 105))] [] 2 1 0 l66_11 k66_12) b66_4) (.ite (.cm .eql (.iv 0) (.n 123)) (.lp [(.n 0), (.n 0)] [(.cm .eql (.iv 0) (.n 123))] [] 2 1 0 l66_13 k66_14) b66_4))))) (.ite (.cm .eql (.iv 0) (.n 121)) (.lp [(.n 0), (.n 63)] [(.cm .eql (.iv 0) (.n 121))] [] 2 1 0 l66_15 k66_16) (.ite (.cm .eql (.iv 0) (.n 104)) (.ite (.cm .eql (.iv 0) (.n 104)) (.lp [(.n 0), (.n 0)] [(.cm .eql (.iv 0) (.n 104))] [] 2 1 0 l66_17 k66_18) (.ite (.cm .eql (.iv 0) (.n 105)) (.ite (.cm .eql (.iv 0) (.n 105)) (.lp [(.n 0), (.n 0)] [(.cm .eql (.iv 0) (.n 105))] [] 2 1 0 l66_19 k66_20) b66_4) (.ite (.cm .eql (.iv 0) (.n 123)) (.lp [(.n 0), (.n 0)] [(.cm .eql (.iv 0) (.n 123))] [] 2 1 0 l66_21 k66_22) b66_4))) (.ite (.cm .eql (.iv 0) (.n 122)) (.lp [(.n 0), (.n 0)] [(.cm .eql (.iv 0) (.n 122))] [] 2 1 0 l66_23 k66_24) (.ite (.cm .eql (.iv 0) (.n 105)) (.ite (.cm .eql (.iv 0) (.n 105)) (.lp [(.n 0), (.n 0)] [(.cm .eql (.iv 0) (.n 105))] [] 2 1 0 l66_25 k66_26) b66_4) (.ite (.cm .eql (.iv 0) (.n 123)) (.lp [(.n 0), (.n 0)] [(.cm .eql (.iv 0) (.n 123))] [] 2 1 0 l66_27 k66_28) b66_4))))))) (.ite (.cm .eql (.iv 0) (.n 80)) (.call 75 [] [(.cm .eql (.iv 2) (.n 0))] [] 1 0 0 (.ret [(.iv 3)] [(.t true)] [])) (.ite (.cm .eql (.iv 0) (.n 103)) (.ite (.cm .eql (.iv 0) (.n 103)) (.lp [(.n 0), (.n 63)] [(.cm .eql (.iv 0) (.n 103))] [] 2 1 0 l66_29 k66_30) (.ite (.cm .eql (.iv 0) (.n 104)) (.ite (.cm .eql (.iv 0) (.n 104)) (.lp [(.n 0), (.n 0)] [(.cm .eql (.iv 0) (.n 104))] [] 2 1 0 l66_31 k66_32) (.ite (.cm .eql (.iv 0) (.n 105)) (.ite (.cm .eql (.iv 0) (.n 105)) (.lp [(.n 0), (.n 0)] [(.cm .eql (.iv 0) (.n 105))] [] 2 1 0 l66_33 k66_34) b66_4) (.ite (.cm .eql (.iv 0) (.n 123)) (.lp [(.n 0), (.n 0)] [(.cm .eql (.iv 0) (.n 123))] [] 2 1 0 l66_35 k66_36) b66_4))) (.ite (.cm .eql (.iv 0) (.n 122)) (.lp [(.n 0), (.n 0)] [(.cm .eql (.iv 0) (.n 122))] [] 2 1 0 l66_37 k66_38) (.ite (.cm .eql (.iv 0) (.n 105)) (.ite (.cm .eql (.iv 0) (.n 105)) (.lp [(.n 0), (.n 0)] [(.cm .eql (.iv 0) (.n 105))] [] 2 1 0 l66_39 k66_40) b66_4) (.ite (.cm .eql (.iv 0) (.n 123)) (.lp [(.n 0), (.n 0)] [(.cm .eql (.iv 0) (.n 123))] [] 2 1 0 l66_41 k66_42) b66_4))))) (.ite (.cm .eql (.iv 0) (.n 121)) (.lp [(.n 0), (.n 63)] [(.cm .eql (.iv 0) (.n 121))] [] 2 1 0 l66_43 k66_44) (.ite (.cm .eql (.iv 0) (.n 104)) (.ite (.cm .eql (.iv 0) (.n 104)) (.lp [(.n 0), (.n 0)] [(.cm .eql (.iv 0) (.n 104))] [] 2 1 0 l66_45 k66_46) (.ite (.cm .eql (.iv 0) (.n 105)) (.ite (.cm .eql (.iv 0) (.n 105)) (.lp [(.n 0), (.n 0)] [(.cm .eql (.iv 0) (.n 105))] [] 2 1 0 l66_47 k66_48) b66_4) (.ite (.cm .eql (.iv 0) (.n 123)) (.lp [(.n 0), (.n 0)] [(.cm .eql (.iv 0) (.n 123))] [] 2 1 0 l66_49 k66_50) b66_4))) (.ite (.cm .eql (.iv 0) (.n 122)) (.lp [(.n 0), (.n 0)] [(.cm .eql (.iv 0) (.n 122))] [] 2 1 0 l66_51 k66_52) (.ite (.cm .eql (.iv 0) (.n 105)) (.ite (.cm .eql (.iv 0) (.n 105)) (.lp [(.n 0), (.n 0)] [(.cm .eql (.iv 0) (.n 105))] [] 2 1 0 l66_53 k66_54) b66_4) (.ite (.cm .eql (.iv 0) (.n 123)) (.lp [(.n 0), (.n 0)] [(.cm .eql (.iv 0) (.n 123))] [] 2 1 0 l66_55 k66_56) b66_4))))))))) (.call 74 [(.iv 1), (.n 32)] [] [] 1 0 0 (.ite (.cm .eql (.iv 0) (.n 69)) (.ite (.cm .eql (.iv 0) (.n 69)) (.call 75 [] [(.cm .eql (.iv 2) (.n 0))] [] 1 0 0 (.ret [(.iv 3)] [(.t true)] [])) (.ite (.cm .eql (.iv 0) (.n 103)) (.ite (.cm .eql (.iv 0) (.n 103)) (.lp [(.n 0), (.n 31)] [(.cm .eql (.iv 0) (.n 103))] [] 2 1 0 l66_57 k66_58) (.ite (.cm .eql (.iv 0) (.n 104)) (.ite (.cm .eql (.iv 0) (.n 104)) (.lp [(.n 0), (.n 0)] [(.cm .eql (.iv 0) (.n 104))] [] 2 1 0 l66_59 k66_60) (.ite (.cm .eql (.iv 0) (.n 105)) (.ite (.cm .eql (.iv 0) (.n 105)) (.lp [(.n 0), (.n 0)] [(.cm .eql (.iv 0) (.n 105))] [] 2 1 0 l66_61 k66_62) b66_4) (.ite (.cm .eql (.iv 0) (.n 123)) (.lp [(.n 0), (.n 0)] [(.cm .eql (.iv 0) (.n 123))] [] 2 1 0 l66_63 k66_64) b66_4))) (.ite (.cm .eql (.iv 0) (.n 122)) (.lp [(.n 0), (.n 0)] [(.cm .eql (.iv 0) (.n 122))] [] 2 1 0 l66_65 k66_66) (.ite (.cm .eql (.iv 0) (.n 105)) (.ite (.cm .eql (.iv 0) (.n 105)) (.lp [(.n 0), (.n 0)] [(.cm .eql (.iv 0) (.n 105))] [] 2 1 0 l66_67 k66_68) b66_4) (.ite (.cm .eql (.iv 0) (.n 123)) (.lp [(.n 0), (.n 0)] [(.cm .eql (.iv 0) (.n 123))] [] 2 1 0 l66_69 k66_70) b66_4))))) (.ite (.cm .eql (.iv 0) (.n 121)) (.lp [(.n 0), (.n 31)] [(.cm .eql (.iv 0) (.n 121))] [] 2 1 0 l66_71 k66_72) (.ite (.cm .eql (.iv 0) (.n 104)) (.ite (.cm .eql (.iv 0) (.n 104)) (.lp [(.n 0), (.n 0)] [(.cm .eql (.iv 0) (.n 104))] [] 2 1 0 l66_73 k66_74) (.ite (.cm .eql (.iv 0) (.n 105)) (.ite (.cm .eql (.iv 0) (.n 105)) (.lp [(.n 0), (.n 0)] [(.cm .eql (.iv 0) (.n 105))] [] 2 1 0 l66_75 k66_76) b66_4) (.ite (.cm .eql (.iv 0) (.n 123)) (.lp [(.n 0), (.n 0)] [(.cm .eql (.iv 0) (.n 123))] [] 2 1 0 l66_77 k66_78) b66_4))) (.ite (.cm .eql (.iv 0) (.n 122)) (.lp [(.n 0), (.n 0)] [(.cm .eql (.iv 0) (.n 122))] [] 2 1 0 l66_79 k66_80) (.ite (.cm .eql (.iv 0) (.n 105)) (.ite (.cm .eql (.iv 0) (.n 105)) (.lp [(.n 0), (.n 0)] [(.cm .eql (.iv 0) (.n 105))] [] 2 1 0 l66_81 k66_82) b66_4) (.ite (.cm .eql (.iv 0) (.n 123)) (.lp [(.n 0), (.n 0)] [(.cm .eql (.iv 0) (.n 123))] [] 2 1 0 l66_83 k66_84) b66_4))))))) (.ite (.cm .eql (.iv 0) (.n 80)) (.call 75 [] [(.cm .eql (.iv 2) (.n 0))] [] 1 0 0 (.ret [(.iv 3)] [(.t true)] [])) (.ite (.cm .eql (.iv 0) (.n 103)) (.ite (.cm .eql (.iv 0) (.n 103)) (.lp [(.n 0), (.n 31)] [(.cm .eql (.iv 0) (.n 103))] [] 2 1 0 l66_85 k66_86) (.ite (.cm .eql (.iv 0) (.n 104)) (.ite (.cm .eql (.iv 0) (.n 104)) (.lp [(.n 0), (.n 0)] [(.cm .eql (.iv 0) (.n 104))] [] 2 1 0 l66_87 k66_88) (.ite (.cm .eql (.iv 0) (.n 105)) (.ite (.cm .eql (.iv 0) (.n 105)) (.lp [(.n 0), (.n 0)] [(.cm .eql (.iv 0) (.n 105))] [] 2 1 0 l66_89 k66_90) b66_4) (.ite (.cm .eql (.iv 0) (.n 123)) (.lp [(.n 0), (.n 0)] [(.cm .eql (.iv 0) (.n 123))] [] 2 1 0 l66_91 k66_92) b66_4))) (.ite (.cm .eql (.iv 0) (.n 122)) (.lp [(.n 0), (.n 0)] [(.cm .eql (.iv 0) (.n 122))] [] 2 1 0 l66_93 k66_94) (.ite (.cm .eql (.iv 0) (.n 105)) (.ite (.cm .eql (.iv 0) (.n 105)) (.lp [(.n 0), (.n 0)] [(.cm .eql (.iv 0) (.n 105))] [] 2 1 0 l66_95 k66_96) b66_4) (.ite (.cm .eql (.iv 0) (.n 123)) (.lp [(.n 0), (.n 0)] [(.cm .eql (.iv 0) (.n 123))] [] 2 1 0 l66_97 k66_98) b66_4))))) (.ite (.cm .eql (.iv 0) (.n 121)) (.lp [(.n 0), (.n 31)] [(.cm .eql (.iv 0) (.n 121))] [] 2 1 0 l66_99 k66_100) (.ite (.cm .eql (.iv 0) (.n 104)) (.ite (.cm .eql (.iv 0) (.n 104)) (.lp [(.n 0), (.n 0)] [(.cm .eql (.iv 0) (.n 104))] [] 2 1 0 l66_101 k66_102) (.ite (.cm .eql (.iv 0) (.n 105)) (.ite (.cm .eql (.iv 0) (.n 105)) (.lp [(.n 0), (.n 0)] [(.cm .eql (.iv 0) (.n 105))] [] 2 1 0 l66_103 k66_104) b66_4) (.ite (.cm .eql (.iv 0) (.n 123)) (.lp [(.n 0), (.n 0)] [(.cm .eql (.iv 0) (.n 123))] [] 2 1 0 l66_105 k66_106) b66_4))) (.ite (.cm .eql (.iv 0) (.n 122)) (.lp [(.n 0), (.n 0)] [(.cm .eql (.iv 0) (.n 122))] [] 2 1 0 l66_107 k66_108) (.ite (.cm .eql (.iv 0) (.n 105)) (.ite (.cm .eql (.iv 0) (.n 105)) (.lp [(.n 0), (.n 0)] [(.cm .eql (.iv 0) (.n 105))] [] 2 1 0 l66_109 k66_110) b66_4) (.ite (.cm .eql (.iv 0) (.n 123)) (.lp [(.n 0), (.n 0)] [(.cm .eql (.iv 0) (.n 123))] [] 2 1 0 l66_111 k66_112) b66_4)))))))))))
def a66 : Tab := [⟨74, s74, F74⟩, ⟨75, s75, F75⟩, ⟨76, s76, F76⟩, ⟨77, s77, F77⟩]
theorem x66 : sxFn Try.prog (Tab.sig a66) (inlN Try.prog (Tab.sig a66) (hintOf hs) 6) H66 Try.f66 (Try.f66.body.getD .skip) s66 = t66 := by kernel_rfl
theorem e66_74 : Tab.fn a66 74 = F74 := by kernel_rfl
theorem e66_75 : Tab.fn a66 75 = F75 := by kernel_rfl
theorem e66_76 : Tab.fn a66 76 = F76 := by kernel_rfl
theorem e66_77 : Tab.fn a66 77 = F77 := by kernel_rfl
def F66 : Vx.Fn := Vx.Fd t66 (Tab.fn a66)
theorem g66 : Vx.Good Try.prog True_ 66 s66 F66 := good_of_tree hm hI (gcons g74 (gcons g75 (gcons g76 (gcons g77 Tab.Good.nil)))) H66 hs 6 Try.func66 rfl (by kernel_rfl) x66
/-! trammel/trammelref03.less -/
def s78 : Sig := ⟨[(.v (.i .u64)), (.v (.i .u64)), (.v (.i .i64)), (.v .b)], [(.v .b)]⟩
def H78 : Hint := ⟨[], [], [], 12, false⟩
def t78 : Vx.T := (.ite (.bv 0) (.rq (.cm .geq (.cv .u64 (.ar .sub .i64 (.iv 2) (.n 1))) (.n 0)) (.li (.ar .xor .u64 (.iv 0) (.ar .shl .u64 (.n 1) (.cv .u64 (.ar .sub .i64 (.iv 2) (.n 1))))) (.li (.ar .xor .u64 (.iv 1) (.ar .shl .u64 (.n 1) (.cv .u64 (.ar .sub .i64 (.iv 2) (.n 1))))) (.ret [] [(.cm .lss (.iv 3) (.iv 4))] [])))) (.ret [] [(.cm .lss (.iv 0) (.iv 1))] []))
def a78 : Tab := []
theorem x78 : sxFn Try.prog (Tab.sig a78) (inlN Try.prog (Tab.sig a78) (hintOf hs) 6) H78 Try.f78 (Try.f78.body.getD .skip) s78 = t78 := by kernel_rfl
def F78 : Vx.Fn := Vx.Fd t78 (Tab.fn a78)
theorem g78 : Vx.Good Try.prog True_ 78 s78 F78 := good_of_tree hm hI Tab.Good.nil H78 hs 6 Try.func78 rfl (by kernel_rfl) x78
/-! trammel/trammelref03.minus -/
def s79 : Sig := ⟨[(.v (.i .u64)), (.v (.i .i64))], [(.v (.i .u64))]⟩
def H79 : Hint := ⟨[], [], [], 12, false⟩
def t79 : Vx.T := (.call 74 [(.ar .sub .u64 (.n 0) (.iv 0)), (.iv 1)] [] [] 1 0 0 (.ret [(.iv 2)] [] []))
def a79 : Tab := [⟨74, s74, F74⟩]
theorem x79 : sxFn Try.prog (Tab.sig a79) (inlN Try.prog (Tab.sig a79) (hintOf hs) 6) H79 Try.f79 (Try.f79.body.getD .skip) s79 = t79 := by kernel_rfl
theorem e79_74 : Tab.fn a79 74 = F74 := by kernel_rfl
def F79 : Vx.Fn := Vx.Fd t79 (Tab.fn a79)
theorem g79 : Vx.Good Try.prog True_ 79 s79 F79 := good_of_tree hm hI (gcons g74 Tab.Good.nil) H79 hs 6 Try.func79 rfl (by kernel_rfl) x79
/-! trammel/trammelref03.divide -/
def s86 : Sig := ⟨[(.v (.i .u64)), (.v (.i .u64))], [(.v (.i .u64)), (.v (.i .u64))]⟩
def H86 : Hint := ⟨[], [(4, some ⟨[(6, false, [.i .u64]), (7, false, [.i .u64]), (8, false, [.i .i64])], [], [], [9, 10, 11, 12, 13, 14, 15, 16, 17, 18, 19, 20, 21, 22, 23, 24, 25, 26, 27, 28, 29, 30, 31, 32, 33, 34, 35], [], []⟩)], [], 12, false⟩
def l86_1 : Vx.T := (.ite (.cm .geq (.iv 4) (.n 0)) (.call 76 [(.iv 0), (.iv 4)] [] [] 1 0 0 (.lb (.cm .geq (.ar .add .u64 (.ar .mul .u64 (.iv 3) (.n 2)) (.iv 5)) (.iv 1)) (.lb (.oo (.cm .eql (.ar .shr .u64 (.iv 3) (.n 63)) (.n 1)) (.bv 0)) (.ite (.bv 1) (.li (.ar .sub .u64 (.ar .add .u64 (.ar .mul .u64 (.iv 3) (.n 2)) (.iv 5)) (.iv 1)) (.nxt [(.ar .add .u64 (.ar .mul .u64 (.iv 2) (.n 2)) (.n 1)), (.iv 6), (.ar .sub .i64 (.iv 4) (.n 1))] [] [])) (.nxt [(.ar .mul .u64 (.iv 2) (.n 2)), (.ar .add .u64 (.ar .mul .u64 (.iv 3) (.n 2)) (.iv 5)), (.ar .sub .i64 (.iv 4) (.n 1))] [] []))))) (.brk 2 [(.iv 2), (.iv 3), (.iv 4)] [] []))
def k86_2 : Vx.T := (.rq (.cm .eql (.iv 2) (.n 2)) (.ret [(.iv 3), (.iv 4)] [] []))
def t86 : Vx.T := (.lp [(.n 0), (.n 0), (.n 63)] [] [] 3 0 0 l86_1 k86_2)
def a86 : Tab := [⟨76, s76, F76⟩]
theorem x86 : sxFn Try.prog (Tab.sig a86) (inlN Try.prog (Tab.sig a86) (hintOf hs) 6) H86 Try.f86 (Try.f86.body.getD .skip) s86 = t86 := by kernel_rfl
theorem e86_76 : Tab.fn a86 76 = F76 := by kernel_rfl
def F86 : Vx.Fn := Vx.Fd t86 (Tab.fn a86)
theorem g86 : Vx.Good Try.prog True_ 86 s86 F86 := good_of_tree hm hI (gcons g76 Tab.Good.nil) H86 hs 6 Try.func86 rfl (by kernel_rfl) x86
/-! trammel/trammelref03.quotient -/
def s80 : Sig := ⟨[(.v (.i .u64)), (.v (.i .u64)), (.v (.i .i64)), (.v .b)], [(.v (.i .u64)), (.v (.i .u64)), (.v (.i .i64)), (.v (.i .i64))]⟩
def H80 : Hint := ⟨[], [], [], 12, false⟩
def b80_1 : Vx.T := (.lb (.cm .geq (.iv 0) (.ar .shl .u64 (.n 1) (.cv .u64 (.ar .sub .i64 (.iv 2) (.n 1))))) (.ite (.bv 3) (.call 79 [(.iv 5), (.iv 2)] [] [] 1 0 0 (.lb (.cm .geq (.iv 0) (.ar .shl .u64 (.n 1) (.cv .u64 (.ar .sub .i64 (.iv 2) (.n 1))))) (.lb (.cm .geq (.iv 1) (.ar .shl .u64 (.n 1) (.cv .u64 (.ar .sub .i64 (.iv 2) (.n 1))))) (.ite (.nt (.be (.bv 4) (.bv 5))) (.call 79 [(.iv 4), (.iv 2)] [] [] 1 0 0 (.ret [(.iv 7), (.iv 6), (.n 0), (.n 0)] [] [])) (.lb (.cm .geq (.iv 4) (.ar .shl .u64 (.n 1) (.cv .u64 (.ar .sub .i64 (.iv 2) (.n 1))))) (.ite (.bv 6) (.ret [(.n 0), (.iv 6), (.n 7), (.n 0)] [] []) (.ret [(.iv 4), (.iv 6), (.n 0), (.n 0)] [] []))))))) (.lb (.cm .geq (.iv 0) (.ar .shl .u64 (.n 1) (.cv .u64 (.ar .sub .i64 (.iv 2) (.n 1))))) (.lb (.cm .geq (.iv 1) (.ar .shl .u64 (.n 1) (.cv .u64 (.ar .sub .i64 (.iv 2) (.n 1))))) (.ite (.nt (.be (.bv 4) (.bv 5))) (.call 79 [(.iv 4), (.iv 2)] [] [] 1 0 0 (.ret [(.iv 6), (.iv 5), (.n 0), (.n 0)] [] [])) (.lb (.cm .geq (.iv 4) (.ar .shl .u64 (.n 1) (.cv .u64 (.ar .sub .i64 (.iv 2) (.n 1))))) (.ite (.bv 6) (.ret [(.n 0), (.iv 5), (.n 7), (.n 0)] [] []) (.ret [(.iv 4), (.iv 5), (.n 0), (.n 0)] [] []))))))))
def t80 : Vx.T := (.ite (.cm .eql (.iv 1) (.n 0)) (.ret [(.n 0), (.n 0), (.n 6), (.n 6)] [] []) (.rq (.cm .geq (.cv .u64 (.ar .sub .i64 (.iv 2) (.n 1))) (.n 0)) (.ite (.nt (.bv 0)) (.call 86 [(.iv 0), (.iv 1)] [] [] 2 0 0 (.ret [(.iv 3), (.iv 4), (.n 0), (.n 0)] [] [])) (.lb (.cm .geq (.iv 0) (.ar .shl .u64 (.n 1) (.cv .u64 (.ar .sub .i64 (.iv 2) (.n 1))))) (.ite (.bv 1) (.call 79 [(.iv 0), (.iv 2)] [] [] 1 0 0 (.lb (.cm .geq (.iv 1) (.ar .shl .u64 (.n 1) (.cv .u64 (.ar .sub .i64 (.iv 2) (.n 1))))) (.ite (.bv 2) (.call 79 [(.iv 1), (.iv 2)] [] [] 1 0 0 (.call 86 [(.iv 3), (.iv 4)] [] [] 2 0 0 (.lb (.cm .geq (.iv 0) (.ar .shl .u64 (.n 1) (.cv .u64 (.ar .sub .i64 (.iv 2) (.n 1))))) (.ite (.bv 3) (.call 79 [(.iv 6), (.iv 2)] [] [] 1 0 0 (.lb (.cm .geq (.iv 0) (.ar .shl .u64 (.n 1) (.cv .u64 (.ar .sub .i64 (.iv 2) (.n 1))))) (.lb (.cm .geq (.iv 1) (.ar .shl .u64 (.n 1) (.cv .u64 (.ar .sub .i64 (.iv 2) (.n 1))))) (.ite (.nt (.be (.bv 4) (.bv 5))) (.call 79 [(.iv 5), (.iv 2)] [] [] 1 0 0 (.ret [(.iv 8), (.iv 7), (.n 0), (.n 0)] [] [])) (.lb (.cm .geq (.iv 5) (.ar .shl .u64 (.n 1) (.cv .u64 (.ar .sub .i64 (.iv 2) (.n 1))))) (.ite (.bv 6) (.ret [(.n 0), (.iv 7), (.n 7), (.n 0)] [] []) (.ret [(.iv 5), (.iv 7), (.n 0), (.n 0)] [] []))))))) (.lb (.cm .geq (.iv 0) (.ar .shl .u64 (.n 1) (.cv .u64 (.ar .sub .i64 (.iv 2) (.n 1))))) (.lb (.cm .geq (.iv 1) (.ar .shl .u64 (.n 1) (.cv .u64 (.ar .sub .i64 (.iv 2) (.n 1))))) (.ite (.nt (.be (.bv 4) (.bv 5))) (.call 79 [(.iv 5), (.iv 2)] [] [] 1 0 0 (.ret [(.iv 7), (.iv 6), (.n 0), (.n 0)] [] [])) (.lb (.cm .geq (.iv 5) (.ar .shl .u64 (.n 1) (.cv .u64 (.ar .sub .i64 (.iv 2) (.n 1))))) (.ite (.bv 6) (.ret [(.n 0), (.iv 6), (.n 7), (.n 0)] [] []) (.ret [(.iv 5), (.iv 6), (.n 0), (.n 0)] [] [])))))))))) (.call 86 [(.iv 3), (.iv 1)] [] [] 2 0 0 b80_1)))) (.lb (.cm .geq (.iv 1) (.ar .shl .u64 (.n 1) (.cv .u64 (.ar .sub .i64 (.iv 2) (.n 1))))) (.ite (.bv 2) (.call 79 [(.iv 1), (.iv 2)] [] [] 1 0 0 (.call 86 [(.iv 0), (.iv 3)] [] [] 2 0 0 b80_1)) (.call 86 [(.iv 0), (.iv 1)] [] [] 2 0 0 (.lb (.cm .geq (.iv 0) (.ar .shl .u64 (.n 1) (.cv .u64 (.ar .sub .i64 (.iv 2) (.n 1))))) (.ite (.bv 3) (.call 79 [(.iv 4), (.iv 2)] [] [] 1 0 0 (.lb (.cm .geq (.iv 0) (.ar .shl .u64 (.n 1) (.cv .u64 (.ar .sub .i64 (.iv 2) (.n 1))))) (.lb (.cm .geq (.iv 1) (.ar .shl .u64 (.n 1) (.cv .u64 (.ar .sub .i64 (.iv 2) (.n 1))))) (.ite (.nt (.be (.bv 4) (.bv 5))) (.call 79 [(.iv 3), (.iv 2)] [] [] 1 0 0 (.ret [(.iv 6), (.iv 5), (.n 0), (.n 0)] [] [])) (.lb (.cm .geq (.iv 3) (.ar .shl .u64 (.n 1) (.cv .u64 (.ar .sub .i64 (.iv 2) (.n 1))))) (.ite (.bv 6) (.ret [(.n 0), (.iv 5), (.n 7), (.n 0)] [] []) (.ret [(.iv 3), (.iv 5), (.n 0), (.n 0)] [] []))))))) (.lb (.cm .geq (.iv 0) (.ar .shl .u64 (.n 1) (.cv .u64 (.ar .sub .i64 (.iv 2) (.n 1))))) (.lb (.cm .geq (.iv 1) (.ar .shl .u64 (.n 1) (.cv .u64 (.ar .sub .i64 (.iv 2) (.n 1))))) (.ite (.nt (.be (.bv 4) (.bv 5))) (.call 79 [(.iv 3), (.iv 2)] [] [] 1 0 0 (.ret [(.iv 5), (.iv 4), (.n 0), (.n 0)] [] [])) (.lb (.cm .geq (.iv 3) (.ar .shl .u64 (.n 1) (.cv .u64 (.ar .sub .i64 (.iv 2) (.n 1))))) (.ite (.bv 6) (.ret [(.n 0), (.iv 4), (.n 7), (.n 0)] [] []) (.ret [(.iv 3), (.iv 4), (.n 0), (.n 0)] [] []))))))))))))))))
def a80 : Tab := [⟨86, s86, F86⟩, ⟨79, s79, F79⟩]
theorem x80 : sxFn Try.prog (Tab.sig a80) (inlN Try.prog (Tab.sig a80) (hintOf hs) 6) H80 Try.f80 (Try.f80.body.getD .skip) s80 = t80 := by kernel_rfl
theorem e80_86 : Tab.fn a80 86 = F86 := by kernel_rfl
theorem e80_79 : Tab.fn a80 79 = F79 := by kernel_rfl
def F80 : Vx.Fn := Vx.Fd t80 (Tab.fn a80)
theorem g80 : Vx.Good Try.prog True_ 80 s80 F80 := good_of_tree hm hI (gcons g86 (gcons g79 Tab.Good.nil)) H80 hs 6 Try.func80 rfl (by kernel_rfl) x80
/-! trammel/trammelref03.each -/
def s81 : Sig := ⟨[(.v (.i .u64)), (.v (.i .u64)), (.v (.i .i64))], [(.v (.i .u64))]⟩
def H81 : Hint := ⟨[], [(4, some ⟨[(7, false, [.i .u64]), (8, false, [.i .i64])], [], [], [9, 10, 11, 12, 13, 14, 15, 16, 17, 18, 19, 20, 21, 22, 23, 24, 25, 26, 27, 28, 29, 30, 31, 32, 33, 34, 35, 36, 37, 38, 39, 40, 41, 42, 43, 44, 45, 46, 47, 48, 49, 50], [], []⟩)], [], 12, false⟩
def l81_1 : Vx.T := (.ite (.cm .geq (.iv 4) (.n 0)) (.call 76 [(.iv 0), (.iv 4)] [] [] 1 0 0 (.call 76 [(.iv 1), (.iv 4)] [] [] 1 0 0 (.lb (.an (.cm .eql (.iv 2) (.n 0)) (.cm .eql (.ar .add .u64 (.iv 5) (.iv 6)) (.n 2))) (.lb (.an (.cm .eql (.iv 2) (.n 1)) (.cm .gtr (.ar .add .u64 (.iv 5) (.iv 6)) (.n 0))) (.lb (.an (.cm .eql (.iv 2) (.n 2)) (.cm .eql (.ar .add .u64 (.iv 5) (.iv 6)) (.n 1))) (.ite (.oo (.oo (.bv 0) (.bv 1)) (.bv 2)) (.nxt [(.ar .add .u64 (.ar .mul .u64 (.iv 3) (.n 2)) (.n 1)), (.ar .sub .i64 (.iv 4) (.n 1))] [] []) (.nxt [(.ar .mul .u64 (.iv 3) (.n 2)), (.ar .sub .i64 (.iv 4) (.n 1))] [] []))))))) (.brk 2 [(.iv 3), (.iv 4)] [] []))
def k81_2 : Vx.T := (.rq (.cm .eql (.iv 3) (.n 2)) (.ret [(.iv 4)] [] []))
def t81 : Vx.T := (.lp [(.n 0), (.n 63)] [] [] 2 0 0 l81_1 k81_2)
def a81 : Tab := [⟨76, s76, F76⟩]
theorem x81 : sxFn Try.prog (Tab.sig a81) (inlN Try.prog (Tab.sig a81) (hintOf hs) 6) H81 Try.f81 (Try.f81.body.getD .skip) s81 = t81 := by kernel_rfl
theorem e81_76 : Tab.fn a81 76 = F76 := by kernel_rfl
def F81 : Vx.Fn := Vx.Fd t81 (Tab.fn a81)
theorem g81 : Vx.Good Try.prog True_ 81 s81 F81 := good_of_tree hm hI (gcons g76 Tab.Good.nil) H81 hs 6 Try.func81 rfl (by kernel_rfl) x81
/-! trammel/trammelref03.moved -/
def s82 : Sig := ⟨[(.v (.i .u64)), (.v (.i .i64)), (.v (.i .i64)), (.v (.i .u64))], [(.v (.i .u64))]⟩
def H82 : Hint := ⟨[], [(4, some ⟨[(9, false, [.i .u64]), (10, false, [.i .i64])], [], [], [11, 14, 15, 16, 17, 18, 19, 20, 21, 22, 23, 24, 25, 26, 27, 28, 29, 30, 31, 32, 33, 34, 35, 36, 37, 38, 39, 40, 41, 42], [], []⟩)], [], 12, false⟩
def l82_1 : Vx.T := (.ite (.cm .geq (.iv 5) (.n 0)) (.lb (.an (.cm .geq (.ar .sub .i64 (.iv 5) (.iv 1)) (.n 0)) (.cm .lss (.ar .sub .i64 (.iv 5) (.iv 1)) (.iv 2))) (.ite (.bv 0) (.call 76 [(.iv 0), (.ar .sub .i64 (.iv 5) (.iv 1))] [] [] 1 0 0 (.ite (.cm .lss (.ar .sub .i64 (.iv 5) (.iv 1)) (.n 0)) (.nxt [(.ar .add .u64 (.ar .mul .u64 (.iv 4) (.n 2)) (.n 0)), (.ar .sub .i64 (.iv 5) (.n 1))] [] []) (.nxt [(.ar .add .u64 (.ar .mul .u64 (.iv 4) (.n 2)) (.iv 6)), (.ar .sub .i64 (.iv 5) (.n 1))] [] []))) (.ite (.cm .lss (.ar .sub .i64 (.iv 5) (.iv 1)) (.n 0)) (.nxt [(.ar .add .u64 (.ar .mul .u64 (.iv 4) (.n 2)) (.n 0)), (.ar .sub .i64 (.iv 5) (.n 1))] [] []) (.nxt [(.ar .add .u64 (.ar .mul .u64 (.iv 4) (.n 2)) (.iv 3)), (.ar .sub .i64 (.iv 5) (.n 1))] [] [])))) (.brk 2 [(.iv 4), (.iv 5)] [] []))
def k82_2 : Vx.T := (.rq (.cm .eql (.iv 4) (.n 2)) (.ret [(.iv 5)] [] []))
def t82 : Vx.T := (.lp [(.n 0), (.ar .sub .i64 (.iv 2) (.n 1))] [] [] 2 0 0 l82_1 k82_2)
def a82 : Tab := [⟨76, s76, F76⟩]
theorem x82 : sxFn Try.prog (Tab.sig a82) (inlN Try.prog (Tab.sig a82) (hintOf hs) 6) H82 Try.f82 (Try.f82.body.getD .skip) s82 = t82 := by kernel_rfl
theorem e82_76 : Tab.fn a82 76 = F76 := by kernel_rfl
def F82 : Vx.Fn := Vx.Fd t82 (Tab.fn a82)
theorem g82 : Vx.Good Try.prog True_ 82 s82 F82 := good_of_tree hm hI (gcons g76 Tab.Good.nil) H82 hs 6 Try.func82 rfl (by kernel_rfl) x82
/-! trammel/trammelref03.turned -/
def s83 : Sig := ⟨[(.v (.i .u64)), (.v (.i .i64)), (.v (.i .i64))], [(.v (.i .u64))]⟩
def H83 : Hint := ⟨[], [(4, some ⟨[(7, false, [.i .u64]), (8, false, [.i .i64])], [], [], [11, 12, 13, 14, 15, 16, 17, 18, 19, 20, 21, 22, 23, 24, 25, 26, 27, 28], [], []⟩)], [], 12, false⟩
def l83_1 : Vx.T := (.ite (.cm .geq (.iv 4) (.n 0)) (.rq (.cm .neq (.iv 2) (.n 0)) (.li (.ar .add .i64 (.ar .sub .i64 (.iv 4) (.ar .rem .i64 (.iv 1) (.iv 2))) (.iv 2)) (.call 76 [(.iv 0), (.ar .rem .i64 (.iv 5) (.iv 2))] [] [] 1 0 0 (.nxt [(.ar .add .u64 (.ar .mul .u64 (.iv 3) (.n 2)) (.iv 6)), (.ar .sub .i64 (.iv 4) (.n 1))] [] [])))) (.brk 2 [(.iv 3), (.iv 4)] [] []))
def k83_2 : Vx.T := (.rq (.cm .eql (.iv 3) (.n 2)) (.ret [(.iv 4)] [] []))
def t83 : Vx.T := (.lp [(.n 0), (.ar .sub .i64 (.iv 2) (.n 1))] [] [] 2 0 0 l83_1 k83_2)
def a83 : Tab := [⟨76, s76, F76⟩]
theorem x83 : sxFn Try.prog (Tab.sig a83) (inlN Try.prog (Tab.sig a83) (hintOf hs) 6) H83 Try.f83 (Try.f83.body.getD .skip) s83 = t83 := by kernel_rfl
theorem e83_76 : Tab.fn a83 76 = F76 := by kernel_rfl
def F83 : Vx.Fn := Vx.Fd t83 (Tab.fn a83)
theorem g83 : Vx.Good Try.prog True_ 83 s83 F83 := good_of_tree hm hI (gcons g76 Tab.Good.nil) H83 hs 6 Try.func83 rfl (by kernel_rfl) x83
/-! trammel/trammelref03.Bin -/
def s67 : Sig := ⟨[(.v (.i .i64)), (.v (.i .u64)), (.v (.i .u64))], [(.v (.i .u64)), (.v (.i .i64)), (.v .b)]⟩
def H67 : Hint := ⟨[], [(38, some ⟨[(12, false, [.i .u64]), (13, false, [.i .i64])], [], [], [144, 145, 146, 147, 148, 149, 150, 151, 152, 153, 154, 155, 156, 157, 158], [], []⟩), (100005, some ⟨[(6, false, [.i .u64]), (7, false, [.i .i64]), (8, false, [.b]), (9, false, [.i .i64]), (10, false, [.i .i64])], [], [], [29, 30, 31, 32, 33, 34, 35, 36, 37, 38, 39, 40, 41, 42, 43, 44, 45, 46, 47, 48, 49, 50, 51, 52, 53, 54, 55, 56, 57, 58, 59], [], []⟩), (100007, some ⟨[(6, false, [.i .u64]), (7, false, [.i .i64]), (8, false, [.b]), (9, false, [.i .i64]), (10, false, [.i .i64])], [], [], [38, 39, 40, 41, 42, 43, 44, 45, 46, 47, 48, 49, 50, 51, 52, 53, 54, 55, 56, 57, 58, 59], [], []⟩), (100009, some ⟨[(6, false, [.i .u64]), (7, false, [.i .i64]), (8, false, [.b]), (9, false, [.i .i64]), (10, false, [.i .i64])], [], [], [47, 48, 49, 50, 51, 52, 53, 54, 55, 56, 57, 58, 59], [], []⟩), (100020, some ⟨[(84, false, [.b])], [], [], [86], [], []⟩), (100023, some ⟨[(94, false, [.b])], [], [], [96], [], []⟩), (100026, some ⟨[(104, false, [.b])], [], [], [106], [], []⟩), (100029, some ⟨[(115, false, [.b])], [], [], [117], [], []⟩), (100041, some ⟨[(12, false, [.i .u64])], [], [], [153, 154, 155, 156, 157, 158], [], []⟩), (100044, some ⟨[(162, false, [.b])], [], [], [164], [], []⟩), (100048, some ⟨[(178, false, [.b])], [], [], [180], [], []⟩), (100052, some ⟨[(194, false, [.b])], [], [], [196, 197], [], []⟩), (100053, some ⟨[(194, false, [.b])], [], [], [197], [], []⟩)], [], 12, false⟩
def l67_1 : Vx.T := (.ite (.cm .lss (.iv 15) (.iv 6)) (.call 76 [(.iv 9), (.iv 15)] [] [] 1 0 0 (.jn (.ite (.cm .eql (.iv 16) (.n 1)) (.rq (.cm .geq (.cv .u64 (.iv 15)) (.n 0)) (.brk 0 [(.ar .add .u64 (.iv 14) (.ar .shl .u64 (.iv 8) (.cv .u64 (.iv 15))))] [] [])) (.brk 0 [(.iv 14)] [] [])) 1 0 0 (.rq (.cm .eql (.iv 17) (.n 0)) (.nxt [(.iv 18), (.ar .add .i64 (.iv 15) (.n 1))] [] [])))) (.brk 4 [(.iv 14), (.iv 15)] [] []))
def k67_2 : Vx.T := (.rq (.cm .eql (.iv 14) (.n 4)) (.call 74 [(.iv 15), (.iv 6)] [] [] 1 0 0 (.ret [(.iv 17), (.n 0)] [(.t true)] [])))
def t67 : Vx.T := (.lb (.an (.cm .geq (.iv 0) (.n 70)) (.cm .leq (.iv 0) (.n 79))) (.jn (.ite (.bv 0) (.brk 0 [(.n 0), (.n 0), (.n 32), (.ar .sub .i64 (.iv 0) (.n 70))] [(.t false)] []) (.lb (.an (.cm .geq (.iv 0) (.n 81)) (.cm .leq (.iv 0) (.n 90))) (.jn (.ite (.bv 1) (.brk 0 [(.n 0), (.n 0), (.n 64), (.ar .sub .i64 (.iv 0) (.n 81))] [(.t false)] []) (.lb (.an (.cm .geq (.iv 0) (.n 106)) (.cm .leq (.iv 0) (.n 120))) (.jn (.ite (.bv 2) (.brk 0 [(.n 0), (.n 0), (.n 32), (.ar .add .i64 (.ar .sub .i64 (.iv 0) (.n 106)) (.n 10))] [(.t false)] []) (.lb (.an (.cm .geq (.iv 0) (.n 124)) (.cm .leq (.iv 0) (.n 138))) (.ite (.bv 3) (.brk 0 [(.n 0), (.n 0), (.n 64), (.ar .add .i64 (.ar .sub .i64 (.iv 0) (.n 124)) (.n 10))] [(.t false)] []) (.rt (.rt (.rt (.ret [(.n 0), (.n 0)] [(.t false)] []))))))) 4 1 0 (.rq (.cm .eql (.iv 3) (.n 0)) (.brk 0 [(.iv 4), (.iv 5), (.iv 6), (.iv 7)] [(.bv 3)] []))))) 4 1 0 (.rq (.cm .eql (.iv 3) (.n 0)) (.brk 0 [(.iv 4), (.iv 5), (.iv 6), (.iv 7)] [(.bv 2)] []))))) 4 1 0 (.rq (.cm .eql (.iv 3) (.n 0)) (.call 74 [(.iv 1), (.iv 6)] [] [] 1 0 0 (.call 74 [(.iv 2), (.iv 6)] [] [] 1 0 0 (.rq (.cm .neq (.cv .u64 (.iv 6)) (.n 0)) (.ite (.cm .eql (.iv 7) (.n 0)) (.call 75 [] [(.cm .eql (.iv 8) (.iv 9))] [] 1 0 0 (.ret [(.iv 10), (.n 0)] [(.t true)] [])) (.ite (.cm .eql (.iv 7) (.n 1)) (.call 75 [] [(.cm .neq (.iv 8) (.iv 9))] [] 1 0 0 (.ret [(.iv 10), (.n 0)] [(.t true)] [])) (.jn (.ite (.cm .eql (.iv 7) (.n 2)) (.brk 0 [] [(.cm .eql (.iv 7) (.n 2))] []) (.brk 0 [] [(.cm .eql (.iv 7) (.n 3))] [])) 0 1 0 (.rq (.cm .eql (.iv 10) (.n 0)) (.ite (.bv 2) (.call 78 [(.iv 8), (.iv 9), (.iv 6)] [(.cm .eql (.iv 7) (.n 2))] [] 0 1 0 (.call 75 [] [(.bv 3)] [] 1 0 0 (.ret [(.iv 11), (.n 0)] [(.t true)] []))) (.jn (.ite (.cm .eql (.iv 7) (.n 4)) (.brk 0 [] [(.cm .eql (.iv 7) (.n 4))] []) (.brk 0 [] [(.cm .eql (.iv 7) (.n 5))] [])) 0 1 0 (.rq (.cm .eql (.iv 11) (.n 0)) (.ite (.bv 3) (.call 78 [(.iv 9), (.iv 8), (.iv 6)] [(.cm .eql (.iv 7) (.n 4))] [] 0 1 0 (.call 75 [] [(.bv 4)] [] 1 0 0 (.ret [(.iv 12), (.n 0)] [(.t true)] []))) (.jn (.ite (.cm .eql (.iv 7) (.n 6)) (.brk 0 [] [(.cm .eql (.iv 7) (.n 6))] []) (.brk 0 [] [(.cm .eql (.iv 7) (.n 7))] [])) 0 1 0 (.rq (.cm .eql (.iv 12) (.n 0)) (.ite (.bv 4) (.call 78 [(.iv 9), (.iv 8), (.iv 6)] [(.cm .eql (.iv 7) (.n 6))] [] 0 1 0 (.call 75 [] [(.nt (.bv 5))] [] 1 0 0 (.ret [(.iv 13), (.n 0)] [(.t true)] []))) (.jn (.ite (.cm .eql (.iv 7) (.n 8)) (.brk 0 [] [(.cm .eql (.iv 7) (.n 8))] []) (.brk 0 [] [(.cm .eql (.iv 7) (.n 9))] [])) 0 1 0 (.rq (.cm .eql (.iv 13) (.n 0)) (.ite (.bv 5) (.call 78 [(.iv 8), (.iv 9), (.iv 6)] [(.cm .eql (.iv 7) (.n 8))] [] 0 1 0 (.call 75 [] [(.nt (.bv 6))] [] 1 0 0 (.ret [(.iv 14), (.n 0)] [(.t true)] []))) (.ite (.cm .eql (.iv 7) (.n 10)) (.call 74 [(.ar .add .u64 (.iv 8) (.iv 9)), (.iv 6)] [] [] 1 0 0 (.ret [(.iv 14), (.n 0)] [(.t true)] [])) (.ite (.cm .eql (.iv 7) (.n 11)) (.call 79 [(.iv 9), (.iv 6)] [] [] 1 0 0 (.call 74 [(.ar .add .u64 (.iv 8) (.iv 14)), (.iv 6)] [] [] 1 0 0 (.ret [(.iv 15), (.n 0)] [(.t true)] []))) (.ite (.cm .eql (.iv 7) (.n 12)) (.lp [(.n 0), (.n 0)] [] [] 2 0 0 l67_1 k67_2) (.jn (.ite (.cm .eql (.iv 7) (.n 13)) (.brk 0 [] [(.cm .eql (.iv 7) (.n 13))] []) (.brk 0 [] [(.cm .eql (.iv 7) (.n 14))] [])) 0 1 0 (.rq (.cm .eql (.iv 14) (.n 0)) (.ite (.bv 6) (.call 80 [(.iv 8), (.iv 9), (.iv 6)] [(.cm .eql (.iv 7) (.n 13))] [] 4 0 0 (.ret [(.iv 15), (.iv 17)] [(.t true)] [])) (.jn (.ite (.cm .eql (.iv 7) (.n 15)) (.brk 0 [] [(.cm .eql (.iv 7) (.n 15))] []) (.brk 0 [] [(.cm .eql (.iv 7) (.n 16))] [])) 0 1 0 (.rq (.cm .eql (.iv 15) (.n 0)) (.ite (.bv 7) (.call 80 [(.iv 8), (.iv 9), (.iv 6)] [(.cm .eql (.iv 7) (.n 15))] [] 4 0 0 (.ret [(.iv 17), (.iv 19)] [(.t true)] [])) (.jn (.ite (.cm .eql (.iv 7) (.n 17)) (.brk 0 [] [(.cm .eql (.iv 7) (.n 17))] []) (.jn (.ite (.cm .eql (.iv 7) (.n 18)) (.brk 0 [] [(.cm .eql (.iv 7) (.n 18))] []) (.brk 0 [] [(.cm .eql (.iv 7) (.n 19))] [])) 0 1 0 (.rq (.cm .eql (.iv 16) (.n 0)) (.brk 0 [] [(.bv 8)] [])))) 0 1 0 (.rq (.cm .eql (.iv 16) (.n 0)) (.ite (.bv 8) (.call 81 [(.iv 8), (.iv 9), (.ar .sub .i64 (.iv 7) (.n 17))] [] [] 1 0 0 (.ret [(.iv 17), (.n 0)] [(.t true)] [])) (.ite (.cm .eql (.iv 7) (.n 20)) (.call 82 [(.iv 8), (.cv .i64 (.ar .rem .u64 (.iv 9) (.cv .u64 (.iv 6)))), (.iv 6), (.n 0)] [] [] 1 0 0 (.ret [(.iv 17), (.n 0)] [(.t true)] [])) (.ite (.cm .eql (.iv 7) (.n 21)) (.li (.ar .sub .i64 (.n 0) (.cv .i64 (.ar .rem .u64 (.iv 9) (.cv .u64 (.iv 6))))) (.call 76 [(.iv 8), (.ar .sub .i64 (.iv 6) (.n 1))] [] [] 1 0 0 (.call 82 [(.iv 8), (.iv 17), (.iv 6), (.iv 18)] [] [] 1 0 0 (.ret [(.iv 19), (.n 0)] [(.t true)] [])))) (.ite (.cm .eql (.iv 7) (.n 22)) (.li (.ar .sub .i64 (.n 0) (.cv .i64 (.ar .rem .u64 (.iv 9) (.cv .u64 (.iv 6))))) (.call 82 [(.iv 8), (.iv 17), (.iv 6), (.n 0)] [] [] 1 0 0 (.ret [(.iv 18), (.n 0)] [(.t true)] []))) (.ite (.cm .eql (.iv 7) (.n 23)) (.call 83 [(.iv 8), (.cv .i64 (.ar .rem .u64 (.iv 9) (.cv .u64 (.iv 6)))), (.iv 6)] [] [] 1 0 0 (.ret [(.iv 17), (.n 0)] [(.t true)] [])) (.li (.ar .sub .i64 (.iv 6) (.cv .i64 (.ar .rem .u64 (.iv 9) (.cv .u64 (.iv 6))))) (.call 83 [(.iv 8), (.iv 17), (.iv 6)] [] [] 1 0 0 (.ret [(.iv 18), (.n 0)] [(.t true)] [])))))))))))))))))))))))))))))))))))))))
def a67 : Tab := [⟨74, s74, F74⟩, ⟨75, s75, F75⟩, ⟨78, s78, F78⟩, ⟨79, s79, F79⟩, ⟨76, s76, F76⟩, ⟨80, s80, F80⟩, ⟨81, s81, F81⟩, ⟨82, s82, F82⟩, ⟨83, s83, F83⟩]
theorem x67 : sxFn Try.prog (Tab.sig a67) (inlN Try.prog (Tab.sig a67) (hintOf hs) 6) H67 Try.f67 (Try.f67.body.getD .skip) s67 = t67 := by kernel_rfl
theorem e67_74 : Tab.fn a67 74 = F74 := by kernel_rfl
theorem e67_75 : Tab.fn a67 75 = F75 := by kernel_rfl
theorem e67_78 : Tab.fn a67 78 = F78 := by kernel_rfl
theorem e67_79 : Tab.fn a67 79 = F79 := by kernel_rfl
theorem e67_76 : Tab.fn a67 76 = F76 := by kernel_rfl
theorem e67_80 : Tab.fn a67 80 = F80 := by kernel_rfl
theorem e67_81 : Tab.fn a67 81 = F81 := by kernel_rfl
theorem e67_82 : Tab.fn a67 82 = F82 := by kernel_rfl
theorem e67_83 : Tab.fn a67 83 = F83 := by kernel_rfl
def F67 : Vx.Fn := Vx.Fd t67 (Tab.fn a67)
theorem g67 : Vx.Good Try.prog True_ 67 s67 F67 := good_of_tree hm hI (gcons g74 (gcons g75 (gcons g78 (gcons g79 (gcons g76 (gcons g80 (gcons g81 (gcons g82 (gcons g83 Tab.Good.nil))))))))) H67 hs 6 Try.func67 rfl (by kernel_rfl) x67
/-! trammel/trammelref03.Types -/
def s51 : Sig := ⟨[(.v (.i .i64))], [(.v (.lo 3 [(.i .i64)])), (.v (.i .i64)), (.v .b)]⟩
def H51 : Hint := ⟨[], [], [], 12, false⟩
def t51 : Vx.T := (.call 65 [(.iv 0)] [] [] 1 0 0 (.call 66 [(.iv 0), (.n 0)] [] [] 1 1 0 (.ite (.bv 0) (.lb (.an (.cm .geq (.iv 0) (.n 121)) (.cm .leq (.iv 0) (.n 123))) (.lb (.oo (.oo (.bv 1) (.cm .eql (.iv 0) (.n 172))) (.cm .eql (.iv 0) (.n 173))) (.ite (.oo (.bv 2) (.cm .geq (.iv 0) (.n 194))) (.lst [(.els [[(.i (.iv 1))]])] (.ret [(.n 126)] [(.t true)] [(.v 0)])) (.lst [(.els [[(.i (.iv 1))]])] (.ret [(.n 127)] [(.t true)] [(.v 0)]))))) (.call 67 [(.iv 0), (.n 0), (.n 1)] [] [] 2 1 0 (.ite (.bv 1) (.ite (.cm .geq (.iv 0) (.n 124)) (.lst [(.els [[(.i (.iv 1))], [(.i (.iv 1))]])] (.ret [(.n 126)] [(.t true)] [(.v 0)])) (.lst [(.els [[(.i (.iv 1))], [(.i (.iv 1))]])] (.ret [(.n 127)] [(.t true)] [(.v 0)]))) (.ret [(.n 0)] [(.t false)] [.nil]))))))
def a51 : Tab := [⟨65, s65, F65⟩, ⟨66, s66, F66⟩, ⟨67, s67, F67⟩]
theorem x51 : sxFn Try.prog (Tab.sig a51) (inlN Try.prog (Tab.sig a51) (hintOf hs) 6) H51 Try.f51 (Try.f51.body.getD .skip) s51 = t51 := by kernel_rfl
theorem e51_65 : Tab.fn a51 65 = F65 := by kernel_rfl
theorem e51_66 : Tab.fn a51 66 = F66 := by kernel_rfl
theorem e51_67 : Tab.fn a51 67 = F67 := by kernel_rfl
def F51 : Vx.Fn := Vx.Fd t51 (Tab.fn a51)
theorem g51 : Vx.Good Try.prog True_ 51 s51 F51 := good_of_tree hm hI (gcons g65 (gcons g66 (gcons g67 Tab.Good.nil))) H51 hs 6 Try.func51 rfl (by kernel_rfl) x51
/-! trammel/trammelref06.Pattern -/
def s30 : Sig := ⟨[(.v (.i .i64))], [(.v .s)]⟩
def H30 : Hint := ⟨[], [(45, some ⟨[(2, false, [.s]), (67, false, [.i .i64])], [], [], [4, 68, 69, 70, 71, 72, 73, 74, 75, 76, 77, 78, 79, 80, 81], [], []⟩), (100004, some ⟨[(11, false, [.b])], [], [], [13, 14, 15, 16, 17, 18], [], []⟩), (100005, some ⟨[(11, false, [.b])], [], [], [14, 15, 16, 17, 18], [], []⟩), (100006, some ⟨[(11, false, [.b])], [], [], [15, 16, 17, 18], [], []⟩), (100007, some ⟨[(11, false, [.b])], [], [], [16, 17, 18], [], []⟩), (100008, some ⟨[(11, false, [.b])], [], [], [17, 18], [], []⟩), (100009, some ⟨[(11, false, [.b])], [], [], [18], [], []⟩), (100012, some ⟨[(19, false, [.b])], [], [], [21, 22], [], []⟩), (100013, some ⟨[(19, false, [.b])], [], [], [22], [], []⟩), (100016, some ⟨[(23, false, [.b])], [], [], [25, 26, 27, 28, 29, 30, 31, 32, 33], [], []⟩), (100017, some ⟨[(23, false, [.b])], [], [], [26, 27, 28, 29, 30, 31, 32, 33], [], []⟩), (100018, some ⟨[(23, false, [.b])], [], [], [27, 28, 29, 30, 31, 32, 33], [], []⟩), (100019, some ⟨[(23, false, [.b])], [], [], [28, 29, 30, 31, 32, 33], [], []⟩), (100020, some ⟨[(23, false, [.b])], [], [], [29, 30, 31, 32, 33], [], []⟩), (100021, some ⟨[(23, false, [.b])], [], [], [30, 31, 32, 33], [], []⟩), (100022, some ⟨[(23, false, [.b])], [], [], [31, 32, 33], [], []⟩), (100023, some ⟨[(23, false, [.b])], [], [], [32, 33], [], []⟩), (100024, some ⟨[(23, false, [.b])], [], [], [33], [], []⟩), (100029, some ⟨[(36, false, [.b])], [], [], [38, 39], [], []⟩), (100030, some ⟨[(36, false, [.b])], [], [], [39], [], []⟩), (100033, some ⟨[(40, false, [.b])], [], [], [42, 43], [], []⟩), (100034, some ⟨[(40, false, [.b])], [], [], [43], [], []⟩)], [], 12, false⟩
def l30_1 : Vx.T := (.ite (.cm .lss (.iv 6) (.ln 0)) (.rq (.cm .geq (.iv 6) (.n 0)) (.lb (.an (.cm .geq (.iv 0) (.ix 0 (.iv 6) 0)) (.cm .leq (.iv 0) (.ix 0 (.iv 6) 1))) (.ite (.bv 5) (.rt (.ret [] [] [(.s [63])])) (.nxt [(.ar .add .i64 (.iv 6) (.n 1))] [] [(.v 1)])))) (.brk 3 [(.iv 6)] [] [(.v 1)]))
def k30_2 : Vx.T := (.rq (.cm .eql (.iv 6) (.n 3)) (.call 50 [(.iv 0)] [] [] 3 3 0 (.ite (.bv 7) (.ret [] [] [(.s [97, 98])]) (.call 51 [(.iv 0)] [] [] 1 1 1 (.ite (.bv 8) (.ret [] [] [(.s [46])]) (.ret [] [] [(.s [])]))))))
def t30 : Vx.T := (.jn (.ite (.cm .eql (.iv 0) (.n 0)) (.brk 0 [] [(.cm .eql (.iv 0) (.n 0))] []) (.jn (.ite (.cm .eql (.iv 0) (.n 1)) (.brk 0 [] [(.cm .eql (.iv 0) (.n 1))] []) (.jn (.ite (.cm .eql (.iv 0) (.n 5)) (.brk 0 [] [(.cm .eql (.iv 0) (.n 5))] []) (.jn (.ite (.cm .eql (.iv 0) (.n 11)) (.brk 0 [] [(.cm .eql (.iv 0) (.n 11))] []) (.jn (.ite (.cm .eql (.iv 0) (.n 15)) (.brk 0 [] [(.cm .eql (.iv 0) (.n 15))] []) (.jn (.ite (.cm .eql (.iv 0) (.n 26)) (.brk 0 [] [(.cm .eql (.iv 0) (.n 26))] []) (.brk 0 [] [(.cm .eql (.iv 0) (.n 27))] [])) 0 1 0 (.rq (.cm .eql (.iv 1) (.n 0)) (.brk 0 [] [(.bv 0)] [])))) 0 1 0 (.rq (.cm .eql (.iv 1) (.n 0)) (.brk 0 [] [(.bv 0)] [])))) 0 1 0 (.rq (.cm .eql (.iv 1) (.n 0)) (.brk 0 [] [(.bv 0)] [])))) 0 1 0 (.rq (.cm .eql (.iv 1) (.n 0)) (.brk 0 [] [(.bv 0)] [])))) 0 1 0 (.rq (.cm .eql (.iv 1) (.n 0)) (.brk 0 [] [(.bv 0)] [])))) 0 1 0 (.rq (.cm .eql (.iv 1) (.n 0)) (.ite (.bv 0) (.ret [] [] [(.s [46])]) (.jn (.ite (.cm .eql (.iv 0) (.n 2)) (.brk 0 [] [(.cm .eql (.iv 0) (.n 2))] []) (.jn (.ite (.cm .eql (.iv 0) (.n 3)) (.brk 0 [] [(.cm .eql (.iv 0) (.n 3))] []) (.brk 0 [] [(.cm .eql (.iv 0) (.n 4))] [])) 0 1 0 (.rq (.cm .eql (.iv 2) (.n 0)) (.brk 0 [] [(.bv 1)] [])))) 0 1 0 (.rq (.cm .eql (.iv 2) (.n 0)) (.ite (.bv 1) (.ret [] [] [(.s [116])]) (.jn (.ite (.cm .eql (.iv 0) (.n 12)) (.brk 0 [] [(.cm .eql (.iv 0) (.n 12))] []) (.jn (.ite (.cm .eql (.iv 0) (.n 13)) (.brk 0 [] [(.cm .eql (.iv 0) (.n 13))] []) (.jn (.ite (.cm .eql (.iv 0) (.n 16)) (.brk 0 [] [(.cm .eql (.iv 0) (.n 16))] []) (.jn (.ite (.cm .eql (.iv 0) (.n 32)) (.brk 0 [] [(.cm .eql (.iv 0) (.n 32))] []) (.jn (.ite (.cm .eql (.iv 0) (.n 33)) (.brk 0 [] [(.cm .eql (.iv 0) (.n 33))] []) (.jn (.ite (.cm .eql (.iv 0) (.n 34)) (.brk 0 [] [(.cm .eql (.iv 0) (.n 34))] []) (.jn (.ite (.cm .eql (.iv 0) (.n 35)) (.brk 0 [] [(.cm .eql (.iv 0) (.n 35))] []) (.jn (.ite (.cm .eql (.iv 0) (.n 36)) (.brk 0 [] [(.cm .eql (.iv 0) (.n 36))] []) (.jn (.ite (.cm .eql (.iv 0) (.n 265)) (.brk 0 [] [(.cm .eql (.iv 0) (.n 265))] []) (.brk 0 [] [(.cm .eql (.iv 0) (.n 269))] [])) 0 1 0 (.rq (.cm .eql (.iv 3) (.n 0)) (.brk 0 [] [(.bv 2)] [])))) 0 1 0 (.rq (.cm .eql (.iv 3) (.n 0)) (.brk 0 [] [(.bv 2)] [])))) 0 1 0 (.rq (.cm .eql (.iv 3) (.n 0)) (.brk 0 [] [(.bv 2)] [])))) 0 1 0 (.rq (.cm .eql (.iv 3) (.n 0)) (.brk 0 [] [(.bv 2)] [])))) 0 1 0 (.rq (.cm .eql (.iv 3) (.n 0)) (.brk 0 [] [(.bv 2)] [])))) 0 1 0 (.rq (.cm .eql (.iv 3) (.n 0)) (.brk 0 [] [(.bv 2)] [])))) 0 1 0 (.rq (.cm .eql (.iv 3) (.n 0)) (.brk 0 [] [(.bv 2)] [])))) 0 1 0 (.rq (.cm .eql (.iv 3) (.n 0)) (.brk 0 [] [(.bv 2)] [])))) 0 1 0 (.rq (.cm .eql (.iv 3) (.n 0)) (.ite (.bv 2) (.ret [] [] [(.s [97])]) (.ite (.cm .eql (.iv 0) (.n 14)) (.ret [] [] [(.s [108, 97])]) (.jn (.ite (.cm .eql (.iv 0) (.n 17)) (.brk 0 [] [(.cm .eql (.iv 0) (.n 17))] []) (.jn (.ite (.cm .eql (.iv 0) (.n 268)) (.brk 0 [] [(.cm .eql (.iv 0) (.n 268))] []) (.brk 0 [] [(.cm .eql (.iv 0) (.n 270))] [])) 0 1 0 (.rq (.cm .eql (.iv 4) (.n 0)) (.brk 0 [] [(.bv 3)] [])))) 0 1 0 (.rq (.cm .eql (.iv 4) (.n 0)) (.ite (.bv 3) (.ret [] [] [(.s [97, 98])]) (.jn (.ite (.cm .eql (.iv 0) (.n 63)) (.brk 0 [] [(.cm .eql (.iv 0) (.n 63))] []) (.jn (.ite (.cm .eql (.iv 0) (.n 64)) (.brk 0 [] [(.cm .eql (.iv 0) (.n 64))] []) (.brk 0 [] [(.cm .eql (.iv 0) (.n 267))] [])) 0 1 0 (.rq (.cm .eql (.iv 5) (.n 0)) (.brk 0 [] [(.bv 4)] [])))) 0 1 0 (.rq (.cm .eql (.iv 5) (.n 0)) (.ite (.bv 4) (.ret [] [] [(.s [122])]) (.ite (.cm .eql (.iv 0) (.n 266)) (.ret [] [] [(.s [122, 122])]) (.ite (.cm .eql (.iv 0) (.n 65)) (.ret [] [] [(.s [107])]) (.ite (.cm .eql (.iv 0) (.n 66)) (.ret [] [] [(.s [113])]) (.ite (.cm .eql (.iv 0) (.n 264)) (.ret [] [] [(.s [97, 122])]) (.lst [(.els [[(.i (.n 28)), (.i (.n 28))], [(.i (.n 37)), (.i (.n 38))], [(.i (.n 42)), (.i (.n 43))], [(.i (.n 56)), (.i (.n 57))], [(.i (.n 67)), (.i (.n 68))], [(.i (.n 91)), (.i (.n 102))], [(.i (.n 139)), (.i (.n 166))], [(.i (.n 168)), (.i (.n 171))], [(.i (.n 174)), (.i (.n 191))], [(.i (.n 208)), (.i (.n 210))], [(.i (.n 253)), (.i (.n 253))], [(.i (.n 256)), (.i (.n 263))], [(.i (.n 271)), (.i (.n 273))]])] (.lp [(.n 0)] [] [(.s [])] 1 0 1 l30_1 k30_2))))))))))))))))))))))
def a30 : Tab := [⟨50, s50, F50⟩, ⟨51, s51, F51⟩]
theorem x30 : sxFn Try.prog (Tab.sig a30) (inlN Try.prog (Tab.sig a30) (hintOf hs) 6) H30 Try.f30 (Try.f30.body.getD .skip) s30 = t30 := by kernel_rfl
theorem e30_50 : Tab.fn a30 50 = F50 := by kernel_rfl
theorem e30_51 : Tab.fn a30 51 = F51 := by kernel_rfl
def F30 : Vx.Fn := Vx.Fd t30 (Tab.fn a30)
theorem g30 : Vx.Good Try.prog True_ 30 s30 F30 := good_of_tree hm hI (gcons g50 (gcons g51 Tab.Good.nil)) H30 hs 6 Try.func30 rfl (by kernel_rfl) x30
/-! trammel/trammelref05.RightBlock -/
def s31 : Sig := ⟨[(.v (.i .i64))], [(.v .b)]⟩
def H31 : Hint := ⟨[], [], [], 12, false⟩
def t31 : Vx.T := (.lb (.oo (.cm .eql (.iv 0) (.n (-64))) (.cm .eql (.iv 0) (.n (-1)))) (.lb (.an (.cm .geq (.iv 0) (.n 0)) (.cm .leq (.iv 0) (.n 4294967295))) (.lb (.oo (.oo (.bv 0) (.cm .eql (.iv 0) (.n (-2)))) (.bv 1)) (.ret [] [(.bv 2)] []))))
def a31 : Tab := []
theorem x31 : sxFn Try.prog (Tab.sig a31) (inlN Try.prog (Tab.sig a31) (hintOf hs) 6) H31 Try.f31 (Try.f31.body.getD .skip) s31 = t31 := by kernel_rfl
def F31 : Vx.Fn := Vx.Fd t31 (Tab.fn a31)
theorem g31 : Vx.Good Try.prog True_ 31 s31 F31 := good_of_tree hm hI Tab.Good.nil H31 hs 6 Try.func31 rfl (by kernel_rfl) x31
/-! trammel/trammelref01.PutU -/
def s37 : Sig := ⟨[(.v (.i .u64))], [(.v (.lo 5 [(.i .u8)]))]⟩
def H37 : Hint := ⟨[], [(3, some ⟨[(0, false, [.i .u64]), (2, false, [.lo 5 [(.i .u8)]]), (3, false, [.lo 5 [(.i .u8)]])], [], [], [4, 5, 6, 7, 8, 9, 10, 11, 12, 13, 14, 15, 16, 17, 18, 19, 20], [], []⟩)], [], 12, false⟩
def l37_1 : Vx.T := (.ite (.cm .eql (.ar .quo .u64 (.iv 1) (.n 128)) (.n 0)) (.lst [(.els [[(.i (.cv .u8 (.ar .rem .u64 (.iv 1) (.n 128))))]])] (.rq (.an (.cm .leq (.ln 1) (.n 17592186044416)) (.cm .leq (.ln 2) (.n 17592186044416))) (.lst [(.ap (.v 1) (.v 2))] (.rt (.ret [] [] [(.v 3)]))))) (.lst [(.els [[(.i (.ar .add .u8 (.cv .u8 (.ar .rem .u64 (.iv 1) (.n 128))) (.n 128)))]])] (.rq (.an (.cm .leq (.ln 1) (.n 17592186044416)) (.cm .leq (.ln 2) (.n 17592186044416))) (.lst [(.ap (.v 1) (.v 2))] (.nxt [(.ar .quo .u64 (.iv 1) (.n 128))] [] [(.v 0), (.v 3)])))))
def k37_2 : Vx.T := (.fail 8)
def t37 : Vx.T := (.lp [(.iv 0)] [] [.nil, .nil] 1 0 2 l37_1 k37_2)
def a37 : Tab := []
theorem x37 : sxFn Try.prog (Tab.sig a37) (inlN Try.prog (Tab.sig a37) (hintOf hs) 6) H37 Try.f37 (Try.f37.body.getD .skip) s37 = t37 := by kernel_rfl
def F37 : Vx.Fn := Vx.Fd t37 (Tab.fn a37)
theorem g37 : Vx.Good Try.prog True_ 37 s37 F37 := good_of_tree hm hI Tab.Good.nil H37 hs 6 Try.func37 rfl (by kernel_rfl) x37
/-! trammel/trammelref01.most -/
def s84 : Sig := ⟨[(.v (.i .i64))], [(.v (.i .i64))]⟩
def H84 : Hint := ⟨[], [(3, some ⟨[(3, false, [.i .i64])], [], [], [4, 5, 6, 7, 8, 9], [], []⟩)], [], 12, false⟩
def l84_1 : Vx.T := (.ite (.cm .lss (.ar .mul .i64 (.n 7) (.iv 1)) (.iv 0)) (.nxt [(.ar .add .i64 (.iv 1) (.n 1))] [] []) (.brk 2 [(.iv 1)] [] []))
def k84_2 : Vx.T := (.rq (.cm .eql (.iv 1) (.n 2)) (.ret [(.iv 2)] [] []))
def t84 : Vx.T := (.lp [(.n 0)] [] [] 1 0 0 l84_1 k84_2)
def a84 : Tab := []
theorem x84 : sxFn Try.prog (Tab.sig a84) (inlN Try.prog (Tab.sig a84) (hintOf hs) 6) H84 Try.f84 (Try.f84.body.getD .skip) s84 = t84 := by kernel_rfl
def F84 : Vx.Fn := Vx.Fd t84 (Tab.fn a84)
theorem g84 : Vx.Good Try.prog True_ 84 s84 F84 := good_of_tree hm hI Tab.Good.nil H84 hs 6 Try.func84 rfl (by kernel_rfl) x84
/-! trammel/trammelref01.Read -/
def s68 : Sig := ⟨[(.v (.lf [(.i .u8)])), (.v (.i .i64))], [(.v (.lo 4 [.b])), (.v (.i .i64)), (.v (.i .i64))]⟩
def H68 : Hint := ⟨[], [(6, some ⟨[(4, false, [.lo 4 [.b]]), (5, false, [.i .i64]), (6, false, [.i .i64]), (7, false, [.lo 4 [.b]]), (8, false, [.i .i64])], [], [], [9, 16, 17, 18, 19, 20, 21, 22, 23, 24, 25, 26, 27, 28, 29, 30, 31, 32, 33, 34, 35, 36, 37, 38, 39, 40, 41, 42, 43, 44, 45, 46, 47, 48, 49], [], []⟩), (11, some ⟨[(7, false, [.lo 4 [.b]]), (9, false, [.i .i64])], [], [], [26, 27, 28, 29, 30, 31, 32, 33, 34, 35, 36, 37, 38, 39, 40, 41], [], [2]⟩)], [], 12, false⟩
def l68_1 : Vx.T := (.ite (.cm .lss (.iv 5) (.n 7)) (.rq (.an (.cm .geq (.iv 3) (.n 0)) (.cm .lss (.iv 3) (.ln 0))) (.rq (.an (.cm .geq (.iv 3) (.n 0)) (.cm .lss (.iv 3) (.ln 0))) (.rq (.cm .geq (.cv .u64 (.iv 5)) (.n 0)) (.li (.ar .rem .u8 (.ar .shr .u8 (.ix 0 (.iv 3) 0) (.cv .u64 (.iv 5))) (.n 2)) (.lst [(.els [[(.b (.cm .eql (.iv 6) (.n 1)))]])] (.rq (.an (.cm .leq (.ln 3) (.n 17592186044416)) (.cm .leq (.ln 4) (.n 17592186044416))) (.lst [(.ap (.v 3) (.v 4))] (.nxt [(.ar .add .i64 (.iv 5) (.n 1))] [] [(.v 5)])))))))) (.brk 4 [(.iv 5)] [] [(.v 3)]))
def k68_2 : Vx.T := (.rq (.cm .eql (.iv 5) (.n 4)) (.rq (.an (.cm .geq (.iv 3) (.n 0)) (.cm .lss (.iv 3) (.ln 0))) (.rq (.an (.cm .geq (.iv 3) (.n 0)) (.cm .lss (.iv 3) (.ln 0))) (.ite (.cm .lss (.ix 0 (.iv 3) 0) (.n 128)) (.rt (.ret [(.ar .add .i64 (.iv 3) (.n 1)), (.n 0)] [] [(.v 3)])) (.nxt [(.iv 1), (.iv 2), (.ar .add .i64 (.iv 3) (.n 1))] [] [(.v 1), (.v 3)])))))
def l68_3 : Vx.T := (.call 84 [(.iv 0)] [] [] 1 0 0 (.ite (.cm .lss (.iv 3) (.iv 4)) (.ite (.cm .geq (.iv 3) (.ln 0)) (.rt (.ret [(.n 0), (.n 1)] [] [.nil])) (.lp [(.n 0)] [] [(.v 2)] 1 0 1 l68_1 k68_2)) (.brk 2 [(.iv 1), (.iv 2), (.iv 3)] [] [(.v 1), (.v 2)])))
def k68_4 : Vx.T := (.rq (.cm .eql (.iv 1) (.n 2)) (.ret [(.n 0), (.n 2)] [] [.nil]))
def t68 : Vx.T := (.lb (.oo (.cm .lss (.iv 0) (.n 1)) (.cm .gtr (.iv 0) (.n 64))) (.ite (.bv 0) (.ret [(.n 0), (.n 5)] [] [.nil]) (.lp [(.n 0), (.n 0), (.n 0)] [] [.nil, .nil] 3 0 2 l68_3 k68_4)))
def a68 : Tab := [⟨84, s84, F84⟩]
theorem x68 : sxFn Try.prog (Tab.sig a68) (inlN Try.prog (Tab.sig a68) (hintOf hs) 6) H68 Try.f68 (Try.f68.body.getD .skip) s68 = t68 := by kernel_rfl
theorem e68_84 : Tab.fn a68 84 = F84 := by kernel_rfl
def F68 : Vx.Fn := Vx.Fd t68 (Tab.fn a68)
theorem g68 : Vx.Good Try.prog True_ 68 s68 F68 := good_of_tree hm hI (gcons g84 Tab.Good.nil) H68 hs 6 Try.func68 rfl (by kernel_rfl) x68
/-! trammel/trammelref01.S -/
def s54 : Sig := ⟨[(.v (.lf [(.i .u8)])), (.v (.i .i64))], [(.v (.i .i64)), (.v (.i .i64)), (.v (.i .i64))]⟩
def H54 : Hint := ⟨[], [(6, some ⟨[(4, false, [.i .i64]), (5, false, [.i .i64]), (6, false, [.i .i64]), (10, false, [.i .i64])], [], [], [25, 26, 27, 28, 29, 30, 31, 32, 33, 34, 35, 36, 37, 38, 39, 40], [], []⟩), (12, some ⟨[(11, false, [.i .i64]), (12, false, [.i .i64])], [], [], [13, 41, 42, 43, 44, 45, 46, 47, 48, 49, 50, 51, 52, 53, 54, 55, 56, 57, 58, 59, 60, 61, 62, 63], [], []⟩)], [], 12, false⟩
def l54_1 : Vx.T := (.ite (.cm .geq (.iv 9) (.n 0)) (.rq (.an (.cm .geq (.ar .sub .i64 (.ln 1) (.n 1)) (.n 0)) (.cm .lss (.ar .sub .i64 (.ln 1) (.n 1)) (.ln 1))) (.rq (.an (.cm .geq (.ar .sub .i64 (.ln 1) (.n 1)) (.n 0)) (.cm .lss (.ar .sub .i64 (.ln 1) (.n 1)) (.ln 1))) (.ite (.cm .lss (.iv 9) (.ln 1)) (.ite (.bx 1 (.iv 9) 0) (.nxt [(.ar .add .i64 (.ar .mul .i64 (.iv 8) (.n 2)) (.n 1)), (.ar .sub .i64 (.iv 9) (.n 1))] [] []) (.nxt [(.ar .mul .i64 (.iv 8) (.n 2)), (.ar .sub .i64 (.iv 9) (.n 1))] [] [])) (.ite (.bx 1 (.ar .sub .i64 (.ln 1) (.n 1)) 0) (.nxt [(.ar .add .i64 (.ar .mul .i64 (.iv 8) (.n 2)) (.n 1)), (.ar .sub .i64 (.iv 9) (.n 1))] [] []) (.nxt [(.ar .mul .i64 (.iv 8) (.n 2)), (.ar .sub .i64 (.iv 9) (.n 1))] [] []))))) (.brk 4 [(.iv 8), (.iv 9)] [] []))
def k54_2 : Vx.T := (.rq (.cm .eql (.iv 8) (.n 4)) (.ret [(.iv 9), (.iv 1), (.n 0)] [] []))
def l54_3 : Vx.T := (.ite (.cm .lss (.iv 6) (.ln 1)) (.rq (.cm .geq (.iv 6) (.n 0)) (.rq (.an (.cm .geq (.ar .sub .i64 (.iv 0) (.n 1)) (.n 0)) (.cm .lss (.ar .sub .i64 (.iv 0) (.n 1)) (.ln 1))) (.rq (.an (.cm .geq (.ar .sub .i64 (.iv 0) (.n 1)) (.n 0)) (.cm .lss (.ar .sub .i64 (.iv 0) (.n 1)) (.ln 1))) (.lb (.nt (.be (.bx 1 (.iv 6) 0) (.bx 1 (.ar .sub .i64 (.iv 0) (.n 1)) 0))) (.ite (.bv 0) (.rt (.ret [(.n 0), (.n 0), (.n 2)] [] [])) (.nxt [(.iv 3), (.iv 4), (.iv 5), (.ar .add .i64 (.iv 6) (.n 1))] [] [])))))) (.brk 2 [(.iv 3), (.iv 4), (.iv 5), (.iv 6)] [] []))
def k54_4 : Vx.T := (.rq (.cm .eql (.iv 3) (.n 2)) (.lp [(.n 0), (.n 63)] [] [] 2 0 0 l54_1 k54_2))
def t54 : Vx.T := (.call 68 [(.iv 0)] [] [(.v 0)] 2 0 1 (.ite (.cm .neq (.iv 2) (.n 0)) (.ret [(.n 0), (.n 0), (.iv 2)] [] []) (.lp [(.n 0), (.n 0), (.n 0), (.iv 0)] [] [] 4 0 0 l54_3 k54_4)))
def a54 : Tab := [⟨68, s68, F68⟩]
theorem x54 : sxFn Try.prog (Tab.sig a54) (inlN Try.prog (Tab.sig a54) (hintOf hs) 6) H54 Try.f54 (Try.f54.body.getD .skip) s54 = t54 := by kernel_rfl
theorem e54_68 : Tab.fn a54 68 = F68 := by kernel_rfl
def F54 : Vx.Fn := Vx.Fd t54 (Tab.fn a54)
theorem g54 : Vx.Good Try.prog True_ 54 s54 F54 := good_of_tree hm hI (gcons g68 Tab.Good.nil) H54 hs 6 Try.func54 rfl (by kernel_rfl) x54
/-! trammel/trammelref01.PutS -/
def s39 : Sig := ⟨[(.v (.i .i64))], [(.v (.lo 5 [(.i .u8)]))]⟩
def H39 : Hint := ⟨[], [(4, some ⟨[(2, false, [.lo 5 [(.i .u8)]]), (3, false, [.i .i64])], [], [], [4, 5, 6, 7, 8, 9, 10, 11, 12, 13, 14, 15, 16, 17, 18, 19, 20, 21, 22, 23, 24, 25, 26, 27, 28, 29, 30, 31, 32, 33, 34, 35, 36, 37, 38, 39, 40, 41, 42, 43, 44, 45, 46, 47, 48], [], []⟩), (6, some ⟨[(4, false, [.lo 5 [(.i .u8)]]), (5, false, [.i .i64])], [], [], [6, 12, 13, 14, 15, 16, 17, 18, 19, 20, 21, 22, 23, 24, 25, 26, 27, 28, 29, 30, 31, 32, 33, 34], [], []⟩)], [], 12, false⟩
def l39_1 : Vx.T := (.ite (.cm .lss (.iv 2) (.iv 1)) (.rq (.cm .geq (.cv .u64 (.ar .mul .i64 (.n 7) (.iv 2))) (.n 0)) (.li (.cv .u64 (.ar .shr .i64 (.iv 0) (.cv .u64 (.ar .mul .i64 (.n 7) (.iv 2))))) (.ite (.cm .lss (.iv 2) (.ar .sub .i64 (.iv 1) (.n 1))) (.lst [(.els [[(.i (.ar .add .u8 (.cv .u8 (.ar .rem .u64 (.iv 3) (.n 128))) (.n 128)))]])] (.rq (.an (.cm .leq (.ln 1) (.n 17592186044416)) (.cm .leq (.ln 2) (.n 17592186044416))) (.lst [(.ap (.v 1) (.v 2))] (.nxt [(.ar .add .i64 (.iv 2) (.n 1))] [] [(.v 3)])))) (.lst [(.els [[(.i (.cv .u8 (.ar .rem .u64 (.iv 3) (.n 128))))]])] (.rq (.an (.cm .leq (.ln 1) (.n 17592186044416)) (.cm .leq (.ln 2) (.n 17592186044416))) (.lst [(.ap (.v 1) (.v 2))] (.nxt [(.ar .add .i64 (.iv 2) (.n 1))] [] [(.v 3)]))))))) (.brk 4 [(.iv 2)] [] [(.v 1)]))
def k39_2 : Vx.T := (.rq (.cm .eql (.iv 2) (.n 4)) (.call 54 [(.n 64)] [] [(.v 1)] 3 0 0 (.lb (.an (.cm .eql (.iv 6) (.n 0)) (.cm .eql (.iv 4) (.iv 0))) (.ite (.bv 0) (.rt (.ret [] [] [(.v 1)])) (.nxt [(.ar .add .i64 (.iv 1) (.n 1))] [] [(.v 0)])))))
def l39_3 : Vx.T := (.lp [(.n 0)] [] [.nil] 1 0 1 l39_1 k39_2)
def k39_4 : Vx.T := (.fail 8)
def t39 : Vx.T := (.lp [(.n 1)] [] [.nil] 1 0 1 l39_3 k39_4)
def a39 : Tab := [⟨54, s54, F54⟩]
theorem x39 : sxFn Try.prog (Tab.sig a39) (inlN Try.prog (Tab.sig a39) (hintOf hs) 6) H39 Try.f39 (Try.f39.body.getD .skip) s39 = t39 := by kernel_rfl
theorem e39_54 : Tab.fn a39 54 = F54 := by kernel_rfl
def F39 : Vx.Fn := Vx.Fd t39 (Tab.fn a39)
theorem g39 : Vx.Good Try.prog True_ 39 s39 F39 := good_of_tree hm hI (gcons g54 Tab.Good.nil) H39 hs 6 Try.func39 rfl (by kernel_rfl) x39
/-! trammel/trammelref05.BlockBytes -/
def s38 : Sig := ⟨[(.v (.i .i64))], [(.v (.lo 5 [(.i .u8)]))]⟩
def H38 : Hint := ⟨[], [], [], 12, false⟩
def t38 : Vx.T := (.call 39 [(.iv 0)] [] [] 0 0 1 (.ret [] [] [(.v 0)]))
def a38 : Tab := [⟨39, s39, F39⟩]
theorem x38 : sxFn Try.prog (Tab.sig a38) (inlN Try.prog (Tab.sig a38) (hintOf hs) 6) H38 Try.f38 (Try.f38.body.getD .skip) s38 = t38 := by kernel_rfl
theorem e38_39 : Tab.fn a38 39 = F39 := by kernel_rfl
def F38 : Vx.Fn := Vx.Fd t38 (Tab.fn a38)
theorem g38 : Vx.Good Try.prog True_ 38 s38 F38 := good_of_tree hm hI (gcons g39 Tab.Good.nil) H38 hs 6 Try.func38 rfl (by kernel_rfl) x38
/-! trammel/trammelref06.Bytes -/
def s19 : Sig := ⟨[(.agg [(.i .i64), (.i .i64), (.i .i64), (.i .i64), (.lf [(.i .i64)])])], [(.v (.lo 5 [(.i .u8)]))]⟩
def H19 : Hint := ⟨[], [(7, some ⟨[(3, false, [.lo 5 [(.i .u8)]]), (5, false, [.i .i64])], [], [], [6, 24, 25, 26, 27, 28, 29, 30, 31, 32, 33, 34, 35, 36, 37, 38, 39, 40, 41, 42, 43, 44, 45, 46, 47, 48, 49, 50, 51, 52, 53, 54, 55, 56, 57, 58, 59, 60, 61, 62, 63, 64, 65, 66, 67, 68, 69, 70, 71, 72, 73, 74, 75, 76, 77, 78, 79, 80, 81, 82, 83, 84, 85, 86, 87, 88, 89, 90, 91, 92, 93], [], [2]⟩), (19, some ⟨[(3, false, [.lo 5 [(.i .u8)]]), (6, false, [.i .i64])], [], [], [65, 66, 67, 68, 69, 70, 71, 72, 73, 74, 75, 76, 77, 78, 79, 80], [], [6]⟩), (100004, some ⟨[(3, false, [.lo 5 [(.i .u8)]])], [], [], [14, 15, 16, 17, 18, 19, 20], [], [1]⟩)], [], 12, false⟩
def l19_1 : Vx.T := (.ite (.cm .lss (.iv 6) (.ln 0)) (.rq (.cm .geq (.iv 6) (.n 0)) (.call 37 [(.cv .u64 (.ix 0 (.iv 6) 0))] [] [] 0 0 1 (.rq (.an (.cm .leq (.ln 7) (.n 17592186044416)) (.cm .leq (.ln 8) (.n 17592186044416))) (.lst [(.ap (.v 7) (.v 8))] (.nxt [(.ar .add .i64 (.iv 6) (.n 1))] [] [(.v 9)]))))) (.brk 5 [(.iv 6)] [] [(.v 7)]))
def k19_2 : Vx.T := (.rq (.cm .eql (.iv 6) (.n 5)) (.nxt [(.ar .add .i64 (.iv 5) (.n 1))] [] [(.v 7)]))
def l19_3 : Vx.T := (.ite (.cm .lss (.iv 5) (.ln 3)) (.rq (.cm .geq (.iv 5) (.n 0)) (.ite (.cm .eql (.ix 3 (.iv 5) 0) (.n 116)) (.call 38 [(.iv 1)] [] [] 0 0 1 (.rq (.an (.cm .leq (.ln 4) (.n 17592186044416)) (.cm .leq (.ln 5) (.n 17592186044416))) (.lst [(.ap (.v 4) (.v 5))] (.nxt [(.ar .add .i64 (.iv 5) (.n 1))] [] [(.v 6)])))) (.ite (.cm .eql (.ix 3 (.iv 5) 0) (.n 97)) (.call 37 [(.cv .u64 (.iv 1))] [] [] 0 0 1 (.rq (.an (.cm .leq (.ln 4) (.n 17592186044416)) (.cm .leq (.ln 5) (.n 17592186044416))) (.lst [(.ap (.v 4) (.v 5))] (.nxt [(.ar .add .i64 (.iv 5) (.n 1))] [] [(.v 6)])))) (.ite (.cm .eql (.ix 3 (.iv 5) 0) (.n 98)) (.call 37 [(.cv .u64 (.iv 2))] [] [] 0 0 1 (.rq (.an (.cm .leq (.ln 4) (.n 17592186044416)) (.cm .leq (.ln 5) (.n 17592186044416))) (.lst [(.ap (.v 4) (.v 5))] (.nxt [(.ar .add .i64 (.iv 5) (.n 1))] [] [(.v 6)])))) (.ite (.cm .eql (.ix 3 (.iv 5) 0) (.n 108)) (.call 37 [(.cv .u64 (.ln 0))] [] [] 0 0 1 (.rq (.an (.cm .leq (.ln 4) (.n 17592186044416)) (.cm .leq (.ln 5) (.n 17592186044416))) (.lst [(.ap (.v 4) (.v 5))] (.lp [(.n 0)] [] [(.v 6)] 1 0 1 l19_1 k19_2)))) (.ite (.cm .eql (.ix 3 (.iv 5) 0) (.n 107)) (.ite (.cm .eql (.ix 3 (.iv 5) 0) (.n 107)) (.call 39 [(.iv 3)] [] [] 0 0 1 (.rq (.an (.cm .leq (.ln 4) (.n 17592186044416)) (.cm .leq (.ln 5) (.n 17592186044416))) (.lst [(.ap (.v 4) (.v 5))] (.nxt [(.ar .add .i64 (.iv 5) (.n 1))] [] [(.v 6)])))) (.ite (.cm .eql (.ix 3 (.iv 5) 0) (.n 122)) (.lst [(.els [[(.i (.n 0))]])] (.rq (.an (.cm .leq (.ln 4) (.n 17592186044416)) (.cm .leq (.ln 5) (.n 17592186044416))) (.lst [(.ap (.v 4) (.v 5))] (.nxt [(.ar .add .i64 (.iv 5) (.n 1))] [] [(.v 6)])))) (.nxt [(.ar .add .i64 (.iv 5) (.n 1))] [] [(.v 4)]))) (.ite (.cm .eql (.ix 3 (.iv 5) 0) (.n 113)) (.call 39 [(.iv 3)] [] [] 0 0 1 (.rq (.an (.cm .leq (.ln 4) (.n 17592186044416)) (.cm .leq (.ln 5) (.n 17592186044416))) (.lst [(.ap (.v 4) (.v 5))] (.nxt [(.ar .add .i64 (.iv 5) (.n 1))] [] [(.v 6)])))) (.ite (.cm .eql (.ix 3 (.iv 5) 0) (.n 122)) (.lst [(.els [[(.i (.n 0))]])] (.rq (.an (.cm .leq (.ln 4) (.n 17592186044416)) (.cm .leq (.ln 5) (.n 17592186044416))) (.lst [(.ap (.v 4) (.v 5))] (.nxt [(.ar .add .i64 (.iv 5) (.n 1))] [] [(.v 6)])))) (.nxt [(.ar .add .i64 (.iv 5) (.n 1))] [] [(.v 4)]))))))))) (.brk 2 [(.iv 5)] [] [(.v 4)]))
def k19_4 : Vx.T := (.rq (.cm .eql (.iv 5) (.n 2)) (.ret [] [] [(.v 4)]))
def t19 : Vx.T := (.lst [(.els [[(.i (.cv .u8 (.iv 0)))]])] (.jn (.ite (.cm .geq (.iv 0) (.n 256)) (.lst [(.els [[(.i (.n 252))]])] (.call 37 [(.cv .u64 (.ar .sub .i64 (.iv 0) (.n 256)))] [] [] 0 0 1 (.rq (.an (.cm .leq (.ln 2) (.n 17592186044416)) (.cm .leq (.ln 3) (.n 17592186044416))) (.lst [(.ap (.v 2) (.v 3))] (.brk 0 [] [] [(.v 4)]))))) (.brk 0 [] [] [(.v 1)])) 0 0 1 (.rq (.cm .eql (.iv 4) (.n 0)) (.call 30 [(.iv 0)] [] [] 0 0 1 (.lp [(.n 0)] [] [(.v 2)] 1 0 1 l19_3 k19_4)))))
def a19 : Tab := [⟨37, s37, F37⟩, ⟨30, s30, F30⟩, ⟨38, s38, F38⟩, ⟨39, s39, F39⟩]
theorem x19 : sxFn Try.prog (Tab.sig a19) (inlN Try.prog (Tab.sig a19) (hintOf hs) 6) H19 Try.f19 (Try.f19.body.getD .skip) s19 = t19 := by kernel_rfl
theorem e19_37 : Tab.fn a19 37 = F37 := by kernel_rfl
theorem e19_30 : Tab.fn a19 30 = F30 := by kernel_rfl
theorem e19_38 : Tab.fn a19 38 = F38 := by kernel_rfl
theorem e19_39 : Tab.fn a19 39 = F39 := by kernel_rfl
def F19 : Vx.Fn := Vx.Fd t19 (Tab.fn a19)
theorem g19 : Vx.Good Try.prog True_ 19 s19 F19 := good_of_tree hm hI (gcons g37 (gcons g30 (gcons g38 (gcons g39 Tab.Good.nil)))) H19 hs 6 Try.func19 rfl (by kernel_rfl) x19
/-! trammel/trammelref01.U -/
def s52 : Sig := ⟨[(.v (.lf [(.i .u8)])), (.v (.i .i64))], [(.v (.i .u64)), (.v (.i .i64)), (.v (.i .i64))]⟩
def H52 : Hint := ⟨[], [(7, some ⟨[(4, false, [.i .u64]), (5, false, [.i .i64]), (6, false, [.i .i64]), (10, false, [.i .u64]), (11, false, [.i .i64])], [], [], [22, 23, 24, 25, 26, 27, 28, 29, 30, 31, 32, 33, 34, 35, 36, 37, 38, 39, 40], [], []⟩)], [], 12, false⟩
def l52_1 : Vx.T := (.ite (.cm .lss (.iv 7) (.ln 1)) (.rq (.cm .geq (.iv 7) (.n 0)) (.ite (.nt (.bx 1 (.iv 7) 0)) (.nxt [(.iv 3), (.iv 4), (.iv 5), (.iv 6), (.ar .add .i64 (.iv 7) (.n 1))] [] []) (.ite (.cm .geq (.iv 7) (.iv 0)) (.rt (.ret [(.n 0), (.n 0), (.n 2)] [] [])) (.rq (.cm .geq (.cv .u64 (.iv 7)) (.n 0)) (.nxt [(.iv 3), (.iv 4), (.iv 5), (.ar .add .u64 (.iv 6) (.ar .shl .u64 (.n 1) (.cv .u64 (.iv 7)))), (.ar .add .i64 (.iv 7) (.n 1))] [] []))))) (.brk 2 [(.iv 3), (.iv 4), (.iv 5), (.iv 6), (.iv 7)] [] []))
def k52_2 : Vx.T := (.rq (.cm .eql (.iv 3) (.n 2)) (.ret [(.iv 7), (.iv 1), (.n 0)] [] []))
def t52 : Vx.T := (.call 68 [(.iv 0)] [] [(.v 0)] 2 0 1 (.ite (.cm .neq (.iv 2) (.n 0)) (.ret [(.n 0), (.n 0), (.iv 2)] [] []) (.lp [(.n 0), (.n 0), (.n 0), (.n 0), (.n 0)] [] [] 5 0 0 l52_1 k52_2)))
def a52 : Tab := [⟨68, s68, F68⟩]
theorem x52 : sxFn Try.prog (Tab.sig a52) (inlN Try.prog (Tab.sig a52) (hintOf hs) 6) H52 Try.f52 (Try.f52.body.getD .skip) s52 = t52 := by kernel_rfl
theorem e52_68 : Tab.fn a52 68 = F68 := by kernel_rfl
def F52 : Vx.Fn := Vx.Fd t52 (Tab.fn a52)
theorem g52 : Vx.Good Try.prog True_ 52 s52 F52 := good_of_tree hm hI (gcons g68 Tab.Good.nil) H52 hs 6 Try.func52 rfl (by kernel_rfl) x52
/-! trammel/trammelref05.Val -/
def s69 : Sig := ⟨[(.v (.i .u8))], [(.v (.i .i64)), (.v (.i .i64))]⟩
def H69 : Hint := ⟨[], [], [], 12, false⟩
def t69 : Vx.T := (.lb (.oo (.cm .eql (.iv 0) (.n 127)) (.cm .eql (.iv 0) (.n 126))) (.ite (.bv 0) (.ret [(.cv .i64 (.iv 0)), (.n 0)] [] []) (.lb (.oo (.cm .eql (.iv 0) (.n 125)) (.cm .eql (.iv 0) (.n 124))) (.lb (.oo (.oo (.bv 1) (.cm .eql (.iv 0) (.n 123))) (.cm .eql (.iv 0) (.n 112))) (.ite (.oo (.bv 2) (.cm .eql (.iv 0) (.n 111))) (.ret [(.n 0), (.n 3)] [] []) (.ret [(.n 0), (.n 2)] [] []))))))
def a69 : Tab := []
theorem x69 : sxFn Try.prog (Tab.sig a69) (inlN Try.prog (Tab.sig a69) (hintOf hs) 6) H69 Try.f69 (Try.f69.body.getD .skip) s69 = t69 := by kernel_rfl
def F69 : Vx.Fn := Vx.Fd t69 (Tab.fn a69)
theorem g69 : Vx.Good Try.prog True_ 69 s69 F69 := good_of_tree hm hI Tab.Good.nil H69 hs 6 Try.func69 rfl (by kernel_rfl) x69
/-! trammel/trammelref05.Block -/
def s53 : Sig := ⟨[(.v (.lf [(.i .u8)]))], [(.v (.i .i64)), (.v (.i .i64)), (.v (.i .i64))]⟩
def H53 : Hint := ⟨[], [], [], 12, false⟩
def t53 : Vx.T := (.ite (.cm .lss (.ln 0) (.n 1)) (.ret [(.n 0), (.n 0), (.n 1)] [] []) (.rq (.cm .lss (.n 0) (.ln 0)) (.ite (.cm .eql (.ix 0 (.n 0) 0) (.n 64)) (.ret [(.n (-64)), (.n 1), (.n 0)] [] []) (.call 69 [(.ix 0 (.n 0) 0)] [] [] 2 0 0 (.ite (.cm .eql (.iv 1) (.n 3)) (.ret [(.n 0), (.n 0), (.n 3)] [] []) (.ite (.cm .eql (.iv 1) (.n 0)) (.ret [(.ar .sub .i64 (.iv 0) (.n 128)), (.n 1), (.n 0)] [] []) (.call 54 [(.n 33)] [] [(.v 0)] 3 0 0 (.ite (.cm .neq (.iv 4) (.n 0)) (.ret [(.n 0), (.n 0), (.iv 4)] [] []) (.ite (.cm .lss (.iv 2) (.n 0)) (.ret [(.n 0), (.n 0), (.n 2)] [] []) (.ret [(.iv 2), (.iv 3), (.n 0)] [] []))))))))))
def a53 : Tab := [⟨69, s69, F69⟩, ⟨54, s54, F54⟩]
theorem x53 : sxFn Try.prog (Tab.sig a53) (inlN Try.prog (Tab.sig a53) (hintOf hs) 6) H53 Try.f53 (Try.f53.body.getD .skip) s53 = t53 := by kernel_rfl
theorem e53_69 : Tab.fn a53 69 = F69 := by kernel_rfl
theorem e53_54 : Tab.fn a53 54 = F54 := by kernel_rfl
def F53 : Vx.Fn := Vx.Fd t53 (Tab.fn a53)
theorem g53 : Vx.Good Try.prog True_ 53 s53 F53 := good_of_tree hm hI (gcons g69 (gcons g54 Tab.Good.nil)) H53 hs 6 Try.func53 rfl (by kernel_rfl) x53
/-! trammel/trammelref06.One -/
def s32 : Sig := ⟨[(.v (.lf [(.i .u8)])), (.v (.i .i64))], [(.agg [(.i .i64), (.i .i64), (.i .i64), (.i .i64), (.lo 3 [(.i .i64)])]), (.v (.i .i64)), (.v (.i .i64))]⟩
def H32 : Hint := ⟨[], [(21, some ⟨[(1, false, [.i .i64]), (5, false, [.i .i64]), (6, false, [.i .i64]), (13, false, [.i .i64])], [(1, 1, .i .i64), (1, 2, .i .i64), (1, 3, .i .i64), (1, 4, .lo 3 [(.i .i64)])], [], [14, 15, 16, 17, 18, 19, 65, 66, 67, 68, 69, 70, 71, 72, 73, 74, 75, 76, 77, 78, 79, 80, 81, 82, 83, 84, 85, 86, 87, 88, 89, 90, 91, 92, 93, 94, 95, 96, 97, 98, 99, 100, 101, 102, 103, 104, 105, 106, 107, 108, 109, 110, 111, 112, 113, 114, 115, 116, 117, 118, 119, 120, 121, 122, 123, 124, 125, 126, 127, 128, 129, 130, 131, 132, 133, 134, 135, 136, 137, 138, 139, 140, 141, 142, 143, 144, 145, 146, 147, 148, 149, 150, 151, 152, 153, 154, 155, 156, 157, 158, 159, 160, 161, 162, 163, 164, 165, 166, 167, 168, 169, 170, 171, 172, 173, 174, 175, 176, 177, 178, 179, 180, 181, 182, 183, 184, 185, 186, 187, 188, 189, 190, 191, 192, 193, 194, 195, 196, 197, 198, 199], [], []⟩), (38, some ⟨[(14, false, [.i .i64]), (15, false, [.i .i64])], [(1, 4, .lo 3 [(.i .i64)])], [], [17, 18, 19, 123, 124, 125, 126, 127, 128, 129, 130, 131, 132, 133, 134, 135, 136, 137, 138, 139, 140, 141, 142, 143, 144, 145, 146, 147, 148, 149, 150, 151, 152, 153, 154, 155, 156, 157, 158, 159], [], [2]⟩), (100007, some ⟨[(1, false, [.i .i64]), (5, false, [.i .i64]), (6, false, [.i .i64]), (7, false, [.i .i64])], [], [], [8, 9, 10, 34, 35, 36, 37, 38, 39, 40, 41, 42, 43, 44, 45, 46, 47, 48, 49, 50, 51, 52, 53, 54], [], []⟩), (100026, some ⟨[(14, false, [.i .i64]), (15, false, [.i .i64])], [(1, 1, .i .i64), (1, 2, .i .i64), (1, 3, .i .i64), (1, 4, .lo 3 [(.i .i64)])], [], [16, 17, 18, 19, 76, 77, 78, 79, 80, 81, 82, 83, 84, 85, 86, 87, 88, 89, 90, 91, 92, 93, 94, 95, 96, 97, 98, 99, 100, 101, 102, 103, 104, 105, 106, 107, 108, 109, 110, 111, 112, 113, 114, 115, 116, 117, 118, 119, 120, 121, 122, 123, 124, 125, 126, 127, 128, 129, 130, 131, 132, 133, 134, 135, 136, 137, 138, 139, 140, 141, 142, 143, 144, 145, 146, 147, 148, 149, 150, 151, 152, 153, 154, 155, 156, 157, 158, 159, 160, 161, 162, 163, 164, 165, 166, 167, 168, 169, 170, 171, 172, 173, 174, 175, 176, 177, 178, 179, 180, 181, 182, 183, 184, 185, 186, 187, 188, 189, 190, 191, 192], [], [2]⟩), (100028, some ⟨[(85, false, [.b])], [], [], [87, 88], [], []⟩), (100029, some ⟨[(85, false, [.b])], [], [], [88], [], []⟩), (100030, some ⟨[(14, false, [.i .i64]), (15, false, [.i .i64])], [(1, 1, .i .i64), (1, 2, .i .i64), (1, 3, .i .i64), (1, 4, .lo 3 [(.i .i64)])], [], [16, 17, 18, 19, 89, 90, 91, 92, 93, 94, 95, 96, 97, 98, 99, 100, 101, 102, 103, 104, 105, 106, 107, 108, 109, 110, 111, 112, 113, 114, 115, 116, 117, 118, 119, 120, 121, 122, 123, 124, 125, 126, 127, 128, 129, 130, 131, 132, 133, 134, 135, 136, 137, 138, 139, 140, 141, 142, 143, 144, 145, 146, 147, 148, 149, 150, 151, 152, 153, 154, 155, 156, 157, 158, 159, 160, 161, 162, 163, 164, 165, 166, 167, 168, 169, 170, 171, 172, 173, 174, 175, 176, 177, 178, 179, 180, 181, 182, 183, 184, 185, 186, 187, 188, 189, 190, 191, 192], [], [2]⟩), (100033, some ⟨[], [(1, 1, .i .i64)], [], [101, 102, 103], [], []⟩), (100035, some ⟨[], [(1, 1, .i .i64), (1, 2, .i .i64)], [], [108, 109, 110], [], []⟩), (100037, some ⟨[(15, false, [.i .i64])], [], [], [], [], []⟩), (100043, some ⟨[(14, false, [.i .i64]), (15, false, [.i .i64])], [(1, 3, .i .i64)], [], [162, 163, 164, 165, 166, 167, 168, 169, 170, 171, 172, 173, 174, 175, 176, 177, 178, 179, 180, 181, 182, 183, 184, 185, 186, 187, 188, 189, 190, 191, 192], [], []⟩), (100045, some ⟨[(14, false, [.i .i64]), (15, false, [.i .i64])], [(1, 3, .i .i64)], [], [173, 174, 175, 176, 177, 178, 179, 180, 181, 182, 183, 184, 185, 186, 187, 188, 189, 190, 191, 192], [], []⟩), (100047, some ⟨[(14, false, [.i .i64]), (15, false, [.i .i64])], [], [], [184, 185, 186, 187, 188, 189, 190, 191, 192], [], []⟩), (100049, some ⟨[(15, false, [.i .i64])], [], [], [188, 189, 190, 191, 192], [], []⟩), (100051, some ⟨[(15, false, [.i .i64])], [], [], [], [], []⟩)], [], 12, false⟩
def l32_1 : Vx.T := (.lb (.an (.cm .eql (.ix 1 (.iv 9) 0) (.n 108)) (.cm .eql (.iv 25) (.n 0))) (.ite (.an (.bv 2) (.cm .lss (.ln 4) (.cv .i64 (.iv 14)))) (.rq (.an (.cm .leq (.n 0) (.ar .add .i64 (.iv 6) (.iv 24))) (.an (.cm .leq (.ar .add .i64 (.iv 6) (.iv 24)) (.ln 0)) (.cm .leq (.ln 0) (.ln 0)))) (.lst [(.cut (.v 0) (.ar .add .i64 (.iv 6) (.iv 24)) (.ln 0))] (.call 52 [(.n 32)] [] [(.v 5)] 3 0 0 (.lst [(.els [[(.i (.cv .i64 (.iv 26)))]])] (.rq (.an (.cm .leq (.ln 4) (.n 3909374676536)) (.cm .leq (.ln 6) (.n 3909374676536))) (.lst [(.ap (.v 4) (.v 6))] (.nxt [(.ar .add .i64 (.iv 24) (.iv 27)), (.iv 28)] [] [(.v 7)]))))))) (.brk 5 [(.iv 24), (.iv 25)] [] [(.v 4)])))
def k32_2 : Vx.T := (.rq (.cm .eql (.iv 24) (.n 5)) (.brk 0 [(.iv 25), (.iv 26), (.iv 20), (.iv 21), (.iv 12)] [] [(.v 4)]))
def l32_3 : Vx.T := (.ite (.cm .lss (.iv 9) (.ln 1)) (.rq (.cm .geq (.iv 9) (.n 0)) (.jn (.ite (.cm .eql (.ix 1 (.iv 9) 0) (.n 116)) (.rq (.an (.cm .leq (.n 0) (.iv 6)) (.an (.cm .leq (.iv 6) (.ln 0)) (.cm .leq (.ln 0) (.ln 0)))) (.lst [(.cut (.v 0) (.iv 6) (.ln 0))] (.call 53 [] [] [(.v 3)] 3 0 0 (.brk 0 [(.iv 14), (.iv 15), (.iv 13), (.iv 11), (.iv 12)] [] [(.v 2)])))) (.jn (.ite (.cm .eql (.ix 1 (.iv 9) 0) (.n 97)) (.brk 0 [] [(.cm .eql (.ix 1 (.iv 9) 0) (.n 97))] []) (.jn (.ite (.cm .eql (.ix 1 (.iv 9) 0) (.n 98)) (.brk 0 [] [(.cm .eql (.ix 1 (.iv 9) 0) (.n 98))] []) (.brk 0 [] [(.cm .eql (.ix 1 (.iv 9) 0) (.n 108))] [])) 0 1 0 (.rq (.cm .eql (.iv 13) (.n 0)) (.brk 0 [] [(.bv 0)] [])))) 0 1 0 (.rq (.cm .eql (.iv 13) (.n 0)) (.jn (.ite (.bv 0) (.rq (.an (.cm .leq (.n 0) (.iv 6)) (.an (.cm .leq (.iv 6) (.ln 0)) (.cm .leq (.ln 0) (.ln 0)))) (.lst [(.cut (.v 0) (.iv 6) (.ln 0))] (.call 52 [(.n 32)] [] [(.v 3)] 3 0 0 (.jn (.ite (.cm .eql (.ix 1 (.iv 9) 0) (.n 97)) (.brk 0 [(.cv .i64 (.iv 14))] [] []) (.brk 0 [(.iv 10)] [] [])) 1 0 0 (.rq (.cm .eql (.iv 17) (.n 0)) (.jn (.ite (.cm .eql (.ix 1 (.iv 9) 0) (.n 98)) (.brk 0 [(.iv 18), (.cv .i64 (.iv 14))] [] []) (.brk 0 [(.iv 18), (.iv 11)] [] [])) 2 0 0 (.rq (.cm .eql (.iv 19) (.n 0)) (.lb (.an (.cm .eql (.ix 1 (.iv 9) 0) (.n 108)) (.cm .eql (.iv 16) (.n 0))) (.jn (.ite (.an (.bv 1) (.cm .gtr (.iv 14) (.n 64))) (.brk 0 [(.n 4)] [] []) (.brk 0 [(.iv 16)] [] [])) 1 0 0 (.rq (.cm .eql (.iv 22) (.n 0)) (.lp [(.iv 15), (.iv 23)] [] [(.v 2)] 2 0 1 l32_1 k32_2))))))))))) (.jn (.ite (.cm .eql (.ix 1 (.iv 9) 0) (.n 107)) (.rq (.an (.cm .leq (.n 0) (.iv 6)) (.an (.cm .leq (.iv 6) (.ln 0)) (.cm .leq (.ln 0) (.ln 0)))) (.lst [(.cut (.v 0) (.iv 6) (.ln 0))] (.call 54 [(.n 32)] [] [(.v 3)] 3 0 0 (.brk 0 [(.iv 15), (.iv 16), (.iv 14)] [] [])))) (.jn (.ite (.cm .eql (.ix 1 (.iv 9) 0) (.n 113)) (.rq (.an (.cm .leq (.n 0) (.iv 6)) (.an (.cm .leq (.iv 6) (.ln 0)) (.cm .leq (.ln 0) (.ln 0)))) (.lst [(.cut (.v 0) (.iv 6) (.ln 0))] (.call 54 [(.n 64)] [] [(.v 3)] 3 0 0 (.brk 0 [(.iv 15), (.iv 16), (.iv 14)] [] [])))) (.jn (.ite (.cm .eql (.ix 1 (.iv 9) 0) (.n 122)) (.jn (.ite (.cm .geq (.iv 6) (.ln 0)) (.brk 0 [(.n 1)] [] []) (.rq (.an (.cm .geq (.iv 6) (.n 0)) (.cm .lss (.iv 6) (.ln 0))) (.rq (.an (.cm .geq (.iv 6) (.n 0)) (.cm .lss (.iv 6) (.ln 0))) (.jn (.ite (.cm .neq (.ix 0 (.iv 6) 0) (.n 0)) (.brk 0 [(.n 2)] [] []) (.brk 0 [(.n 0)] [] [])) 1 0 0 (.rq (.cm .eql (.iv 14) (.n 0)) (.brk 0 [(.iv 15)] [] [])))))) 1 0 0 (.rq (.cm .eql (.iv 14) (.n 0)) (.brk 0 [(.n 1), (.iv 15)] [] []))) (.brk 0 [(.n 0), (.n 0)] [] [])) 2 0 0 (.rq (.cm .eql (.iv 14) (.n 0)) (.brk 0 [(.iv 15), (.iv 16), (.iv 12)] [] [])))) 3 0 0 (.rq (.cm .eql (.iv 14) (.n 0)) (.brk 0 [(.iv 15), (.iv 16), (.iv 17)] [] [])))) 3 0 0 (.rq (.cm .eql (.iv 14) (.n 0)) (.brk 0 [(.iv 15), (.iv 16), (.iv 10), (.iv 11), (.iv 17)] [] [(.v 2)])))) 5 0 1 (.rq (.cm .eql (.iv 14) (.n 0)) (.brk 0 [(.iv 15), (.iv 16), (.iv 17), (.iv 18), (.iv 19)] [] [(.v 3)])))))) 5 0 1 (.rq (.cm .eql (.iv 13) (.n 0)) (.ite (.cm .neq (.iv 15) (.n 0)) (.rt (.ret [(.n 0), (.n 0), (.n 0), (.n 0), (.n 0), (.iv 15)] [] [.nil])) (.nxt [(.ar .add .i64 (.iv 6) (.iv 14)), (.iv 7), (.iv 8), (.ar .add .i64 (.iv 9) (.n 1)), (.iv 16), (.iv 17), (.iv 18)] [] [(.v 3)]))))) (.brk 2 [(.iv 6), (.iv 7), (.iv 8), (.iv 9), (.iv 10), (.iv 11), (.iv 12)] [] [(.v 2)]))
def k32_4 : Vx.T := (.rq (.cm .eql (.iv 6) (.n 2)) (.ret [(.iv 5), (.iv 11), (.iv 12), (.iv 13), (.iv 7), (.n 0)] [] [(.v 2)]))
def t32 : Vx.T := (.ite (.cm .geq (.iv 0) (.ln 0)) (.ret [(.n 0), (.n 0), (.n 0), (.n 0), (.n 0), (.n 1)] [] [.nil]) (.rq (.an (.cm .geq (.iv 0) (.n 0)) (.cm .lss (.iv 0) (.ln 0))) (.rq (.an (.cm .geq (.iv 0) (.n 0)) (.cm .lss (.iv 0) (.ln 0))) (.jn (.ite (.cm .eql (.cv .i64 (.ix 0 (.iv 0) 0)) (.n 252)) (.rq (.an (.cm .leq (.n 0) (.ar .add .i64 (.iv 0) (.n 1))) (.an (.cm .leq (.ar .add .i64 (.iv 0) (.n 1)) (.ln 0)) (.cm .leq (.ln 0) (.ln 0)))) (.lst [(.cut (.v 0) (.ar .add .i64 (.iv 0) (.n 1)) (.ln 0))] (.call 52 [(.n 32)] [] [(.v 1)] 3 0 0 (.ite (.cm .neq (.iv 3) (.n 0)) (.rt (.ret [(.n 0), (.n 0), (.n 0), (.n 0), (.n 0), (.iv 3)] [] [.nil])) (.ite (.cm .gtr (.iv 1) (.n 255)) (.rt (.ret [(.n 0), (.n 0), (.n 0), (.n 0), (.n 0), (.n 2)] [] [.nil])) (.brk 0 [(.ar .add .i64 (.ar .add .i64 (.iv 0) (.n 1)) (.iv 2)), (.n 0), (.n 0), (.ar .add .i64 (.n 256) (.cv .i64 (.iv 1)))] [] [])))))) (.brk 0 [(.ar .add .i64 (.iv 0) (.n 1)), (.n 0), (.n 0), (.cv .i64 (.ix 0 (.iv 0) 0))] [] [])) 4 0 0 (.rq (.cm .eql (.iv 1) (.n 0)) (.call 30 [(.iv 5)] [] [] 0 0 1 (.ite (.cm .eql (.ln 1) (.n 0)) (.ret [(.n 0), (.n 0), (.n 0), (.n 0), (.n 0), (.n 2)] [] [.nil]) (.ite (.lc 1 [63]) (.ret [(.n 0), (.n 0), (.n 0), (.n 0), (.n 0), (.n 3)] [] [.nil]) (.lp [(.iv 2), (.iv 3), (.iv 4), (.n 0), (.n 0), (.n 0), (.n 0)] [] [.nil] 7 0 1 l32_3 k32_4)))))))))
def a32 : Tab := [⟨52, s52, F52⟩, ⟨30, s30, F30⟩, ⟨53, s53, F53⟩, ⟨54, s54, F54⟩]
theorem x32 : sxFn Try.prog (Tab.sig a32) (inlN Try.prog (Tab.sig a32) (hintOf hs) 6) H32 Try.f32 (Try.f32.body.getD .skip) s32 = t32 := by kernel_rfl
theorem e32_52 : Tab.fn a32 52 = F52 := by kernel_rfl
theorem e32_30 : Tab.fn a32 30 = F30 := by kernel_rfl
theorem e32_53 : Tab.fn a32 53 = F53 := by kernel_rfl
theorem e32_54 : Tab.fn a32 54 = F54 := by kernel_rfl
def F32 : Vx.Fn := Vx.Fd t32 (Tab.fn a32)
theorem g32 : Vx.Good Try.prog True_ 32 s32 F32 := good_of_tree hm hI (gcons g52 (gcons g30 (gcons g53 (gcons g54 Tab.Good.nil)))) H32 hs 6 Try.func32 rfl (by kernel_rfl) x32
/-! trammel/trammelref05.SameInts -/
def s41 : Sig := ⟨[(.v (.lf [(.i .i64)])), (.v (.lf [(.i .i64)]))], [(.v .b)]⟩
def H41 : Hint := ⟨[], [(5, some ⟨[(4, false, [.b]), (5, false, [.i .i64])], [], [], [11, 12, 13, 14, 15, 16, 17, 18, 19, 20, 21, 22, 23, 24, 25], [], []⟩)], [], 12, false⟩
def l41_1 : Vx.T := (.ite (.cm .lss (.iv 0) (.ln 0)) (.rq (.cm .geq (.iv 0) (.n 0)) (.rq (.cm .lss (.iv 0) (.ln 1)) (.ite (.cm .neq (.ix 0 (.iv 0) 0) (.ix 1 (.iv 0) 0)) (.rt (.ret [] [(.t false)] [])) (.nxt [(.ar .add .i64 (.iv 0) (.n 1))] [(.bv 0)] [])))) (.brk 2 [(.iv 0)] [(.bv 0)] []))
def k41_2 : Vx.T := (.rq (.cm .eql (.iv 0) (.n 2)) (.ret [] [(.t true)] []))
def t41 : Vx.T := (.ite (.cm .neq (.ln 0) (.ln 1)) (.ret [] [(.t false)] []) (.lp [(.n 0)] [(.t false)] [] 1 1 0 l41_1 k41_2))
def a41 : Tab := []
theorem x41 : sxFn Try.prog (Tab.sig a41) (inlN Try.prog (Tab.sig a41) (hintOf hs) 6) H41 Try.f41 (Try.f41.body.getD .skip) s41 = t41 := by kernel_rfl
def F41 : Vx.Fn := Vx.Fd t41 (Tab.fn a41)
theorem g41 : Vx.Good Try.prog True_ 41 s41 F41 := good_of_tree hm hI Tab.Good.nil H41 hs 6 Try.func41 rfl (by kernel_rfl) x41
/-! trammel/trammelref06.Same -/
def s24 : Sig := ⟨[(.agg [(.i .i64), (.i .i64), (.i .i64), (.i .i64), (.lf [(.i .i64)])]), (.agg [(.i .i64), (.i .i64), (.i .i64), (.i .i64), (.lf [(.i .i64)])])], [(.v .b)]⟩
def H24 : Hint := ⟨[], [], [], 12, false⟩
def t24 : Vx.T := (.lb (.an (.cm .eql (.iv 0) (.iv 4)) (.cm .eql (.iv 1) (.iv 5))) (.lb (.an (.an (.bv 0) (.cm .eql (.iv 2) (.iv 6))) (.cm .eql (.iv 3) (.iv 7))) (.ite (.bv 1) (.call 41 [] [] [(.v 0), (.v 1)] 0 1 0 (.ret [] [(.bv 2)] [])) (.ret [] [(.t false)] []))))
def a24 : Tab := [⟨41, s41, F41⟩]
theorem x24 : sxFn Try.prog (Tab.sig a24) (inlN Try.prog (Tab.sig a24) (hintOf hs) 6) H24 Try.f24 (Try.f24.body.getD .skip) s24 = t24 := by kernel_rfl
theorem e24_41 : Tab.fn a24 41 = F41 := by kernel_rfl
def F24 : Vx.Fn := Vx.Fd t24 (Tab.fn a24)
theorem g24 : Vx.Good Try.prog True_ 24 s24 F24 := good_of_tree hm hI (gcons g41 Tab.Good.nil) H24 hs 6 Try.func24 rfl (by kernel_rfl) x24
/-! trammel/trammelref06.Formed -/
def s15 : Sig := ⟨[(.agg [(.i .i64), (.i .i64), (.i .i64), (.i .i64), (.lf [(.i .i64)])])], [(.v .b)]⟩
def H15 : Hint := ⟨[], [(6, some ⟨[(2, false, [.b]), (35, false, [.i .i64])], [], [], [5, 36, 37, 38, 39, 40, 41, 42, 43, 44, 45], [], []⟩)], [], 12, false⟩
def l15_1 : Vx.T := (.ite (.cm .lss (.iv 4) (.ln 3)) (.rq (.cm .geq (.iv 4) (.n 0)) (.lb (.oo (.cm .lss (.ix 3 (.iv 4) 0) (.n 0)) (.cm .gtr (.ix 3 (.iv 4) 0) (.n 4294967295))) (.ite (.bv 2) (.rt (.ret [] [(.t false)] [])) (.nxt [(.ar .add .i64 (.iv 4) (.n 1))] [(.bv 1)] [])))) (.brk 2 [(.iv 4)] [(.bv 1)] []))
def k15_2 : Vx.T := (.rq (.cm .eql (.iv 4) (.n 2)) (.lb (.oo (.cm .lss (.iv 1) (.n 0)) (.cm .gtr (.iv 1) (.n 4294967295))) (.ite (.an (.nt (.an (.nt (.lc 1 [116])) (.bv 2))) (.lc 1 [116])) (.call 31 [(.iv 1)] [] [] 0 1 0 (.ite (.nt (.bv 3)) (.ret [] [(.t false)] []) (.call 19 [(.iv 0), (.iv 1), (.iv 2), (.iv 3)] [] [(.v 0)] 0 0 1 (.call 32 [(.n 0)] [] [(.v 4)] 6 0 1 (.ite (.cm .eql (.iv 11) (.n 0)) (.call 24 [(.iv 0), (.iv 1), (.iv 2), (.iv 3), (.iv 6), (.iv 7), (.iv 8), (.iv 9)] [] [(.v 0), (.v 5)] 0 1 0 (.ret [] [(.bv 4)] [])) (.ret [] [(.t false)] [])))))) (.ite (.an (.nt (.lc 1 [116])) (.bv 2)) (.ret [] [(.t false)] []) (.call 19 [(.iv 0), (.iv 1), (.iv 2), (.iv 3)] [] [(.v 0)] 0 0 1 (.call 32 [(.n 0)] [] [(.v 4)] 6 0 1 (.ite (.cm .eql (.iv 11) (.n 0)) (.call 24 [(.iv 0), (.iv 1), (.iv 2), (.iv 3), (.iv 6), (.iv 7), (.iv 8), (.iv 9)] [] [(.v 0), (.v 5)] 0 1 0 (.ret [] [(.bv 3)] [])) (.ret [] [(.t false)] []))))))))
def t15 : Vx.T := (.call 30 [(.iv 0)] [] [] 0 0 1 (.lb (.oo (.oo (.cm .eql (.ln 1) (.n 0)) (.lc 1 [63])) (.cm .lss (.iv 0) (.n 0))) (.ite (.oo (.bv 0) (.cm .gtr (.iv 0) (.n 511))) (.ret [] [(.t false)] []) (.lst [(.els [[(.i (.iv 2))]])] (.rq (.an (.cm .leq (.ln 2) (.n 3909374676536)) (.cm .leq (.ln 0) (.n 3909374676536))) (.lst [(.ap (.v 2) (.v 0))] (.lp [(.n 0)] [(.t false)] [] 1 1 0 l15_1 k15_2)))))))
def a15 : Tab := [⟨30, s30, F30⟩, ⟨31, s31, F31⟩, ⟨19, s19, F19⟩, ⟨32, s32, F32⟩, ⟨24, s24, F24⟩]
theorem x15 : sxFn Try.prog (Tab.sig a15) (inlN Try.prog (Tab.sig a15) (hintOf hs) 6) H15 Try.f15 (Try.f15.body.getD .skip) s15 = t15 := by kernel_rfl
theorem e15_30 : Tab.fn a15 30 = F30 := by kernel_rfl
theorem e15_31 : Tab.fn a15 31 = F31 := by kernel_rfl
theorem e15_19 : Tab.fn a15 19 = F19 := by kernel_rfl
theorem e15_32 : Tab.fn a15 32 = F32 := by kernel_rfl
theorem e15_24 : Tab.fn a15 24 = F24 := by kernel_rfl
def F15 : Vx.Fn := Vx.Fd t15 (Tab.fn a15)
theorem g15 : Vx.Good Try.prog True_ 15 s15 F15 := good_of_tree hm hI (gcons g30 (gcons g31 (gcons g19 (gcons g32 (gcons g24 Tab.Good.nil))))) H15 hs 6 Try.func15 rfl (by kernel_rfl) x15
/-! trammel/trammelref01.Copy -/
def s18 : Sig := ⟨[(.v (.lf [(.i .u8)]))], [(.v (.lo 5 [(.i .u8)]))]⟩
def H18 : Hint := ⟨[], [], [], 12, false⟩
def t18 : Vx.T := (.lst [(.els [])] (.rq (.an (.cm .leq (.ln 1) (.n 17592186044416)) (.cm .leq (.ln 0) (.n 17592186044416))) (.lst [(.ap (.v 1) (.v 0))] (.ret [] [] [(.v 2)]))))
def a18 : Tab := []
theorem x18 : sxFn Try.prog (Tab.sig a18) (inlN Try.prog (Tab.sig a18) (hintOf hs) 6) H18 Try.f18 (Try.f18.body.getD .skip) s18 = t18 := by kernel_rfl
def F18 : Vx.Fn := Vx.Fd t18 (Tab.fn a18)
theorem g18 : Vx.Good Try.prog True_ 18 s18 F18 := good_of_tree hm hI Tab.Good.nil H18 hs 6 Try.func18 rfl (by kernel_rfl) x18
/-! trammel/trammelref01.Same -/
def s17 : Sig := ⟨[(.v (.lf [(.i .u8)])), (.v (.lf [(.i .u8)]))], [(.v .b)]⟩
def H17 : Hint := ⟨[], [(5, some ⟨[(4, false, [.b]), (5, false, [.i .i64])], [], [], [11, 12, 13, 14, 15, 16, 17, 18, 19, 20, 21, 22, 23, 24, 25], [], []⟩)], [], 12, false⟩
def l17_1 : Vx.T := (.ite (.cm .lss (.iv 0) (.ln 0)) (.rq (.cm .geq (.iv 0) (.n 0)) (.rq (.cm .lss (.iv 0) (.ln 1)) (.ite (.cm .neq (.ix 0 (.iv 0) 0) (.ix 1 (.iv 0) 0)) (.rt (.ret [] [(.t false)] [])) (.nxt [(.ar .add .i64 (.iv 0) (.n 1))] [(.bv 0)] [])))) (.brk 2 [(.iv 0)] [(.bv 0)] []))
def k17_2 : Vx.T := (.rq (.cm .eql (.iv 0) (.n 2)) (.ret [] [(.t true)] []))
def t17 : Vx.T := (.ite (.cm .neq (.ln 0) (.ln 1)) (.ret [] [(.t false)] []) (.lp [(.n 0)] [(.t false)] [] 1 1 0 l17_1 k17_2))
def a17 : Tab := []
theorem x17 : sxFn Try.prog (Tab.sig a17) (inlN Try.prog (Tab.sig a17) (hintOf hs) 6) H17 Try.f17 (Try.f17.body.getD .skip) s17 = t17 := by kernel_rfl
def F17 : Vx.Fn := Vx.Fd t17 (Tab.fn a17)
theorem g17 : Vx.Good Try.prog True_ 17 s17 F17 := good_of_tree hm hI Tab.Good.nil H17 hs 6 Try.func17 rfl (by kernel_rfl) x17
/-! trammel/instr.Closed -/
def s12 : Sig := ⟨[(.v (.lf [(.i .i64), (.i .i64), (.i .i64), (.i .i64), (.sl [(.i .i64)])]))], [(.v .b)]⟩
def H12 : Hint := ⟨[], [(6, some ⟨[(2, false, [.b]), (13, false, [.i .i64])], [(0, 0, .lo 4 [.b])], [], [4, 5, 6, 7, 14, 15, 16, 17, 18, 19, 20, 21, 22, 23, 24, 25, 26, 27, 28, 29, 30, 31, 32, 33, 34], [], []⟩)], [], 12, false⟩
def l12_1 : Vx.T := (.ite (.cm .lss (.iv 0) (.ln 0)) (.rq (.cm .geq (.iv 0) (.n 0)) (.lst [(.cl 0 (.iv 0) 4)] (.call 16 [(.ix 0 (.iv 0) 0), (.ix 0 (.iv 0) 1), (.ix 0 (.iv 0) 2), (.ix 0 (.iv 0) 3)] [] [(.v 2)] 0 1 0 (.ite (.nt (.bv 1)) (.rt (.ret [] [(.t false)] [])) (.call 27 [(.ix 0 (.iv 0) 0), (.ix 0 (.iv 0) 1), (.ix 0 (.iv 0) 2), (.ix 0 (.iv 0) 3)] [] [(.v 1), (.v 2)] 1 1 1 (.ite (.cm .neq (.iv 1) (.n 0)) (.rt (.ret [] [(.t false)] [])) (.ite (.bv 2) (.rt (.ret [] [(.cm .eql (.iv 0) (.ar .sub .i64 (.ln 0) (.n 1)))] [])) (.nxt [(.ar .add .i64 (.iv 0) (.n 1))] [(.bv 0)] [(.v 3)])))))))) (.brk 2 [(.iv 0)] [(.bv 0)] [(.v 1)]))
def k12_2 : Vx.T := (.rq (.cm .eql (.iv 0) (.n 2)) (.ret [] [(.t false)] []))
def t12 : Vx.T := (.ite (.cm .gtr (.ln 0) (.n 2000)) (.ret [] [(.t false)] []) (.lp [(.n 0)] [(.t false)] [.nil] 1 1 1 l12_1 k12_2))
def a12 : Tab := [⟨16, s16, F16⟩, ⟨27, s27, F27⟩]
theorem x12 : sxFn Try.prog (Tab.sig a12) (inlN Try.prog (Tab.sig a12) (hintOf hs) 6) H12 Try.f12 (Try.f12.body.getD .skip) s12 = t12 := by kernel_rfl
theorem e12_16 : Tab.fn a12 16 = F16 := by kernel_rfl
theorem e12_27 : Tab.fn a12 27 = F27 := by kernel_rfl
def F12 : Vx.Fn := Vx.Fd t12 (Tab.fn a12)
theorem g12 : Vx.Good Try.prog True_ 12 s12 F12 := good_of_tree hm hI (gcons g16 (gcons g27 Tab.Good.nil)) H12 hs 6 Try.func12 rfl (by kernel_rfl) x12
/-! trammel/instr.PutBody -/
def s11 : Sig := ⟨[(.v (.lf [(.i .u8)])), (.v (.lf [(.i .i64), (.i .i64), (.i .i64), (.i .i64), (.sl [(.i .i64)])]))], [(.v (.lo 5 [(.i .u8)])), (.v (.i .i64))]⟩
def H11 : Hint := ⟨[], [(6, some ⟨[(6, false, [.lo 5 [(.i .u8)]]), (16, false, [.i .i64])], [], [], [8, 17, 18, 19, 20, 21, 22, 23], [], [2]⟩)], [], 12, false⟩
def l11_1 : Vx.T := (.ite (.cm .lss (.iv 0) (.ln 1)) (.rq (.cm .geq (.iv 0) (.n 0)) (.lst [(.cl 1 (.iv 0) 4)] (.call 29 [(.ix 1 (.iv 0) 0), (.ix 1 (.iv 0) 1), (.ix 1 (.iv 0) 2), (.ix 1 (.iv 0) 3)] [] [(.v 3), (.v 4)] 0 0 1 (.nxt [(.ar .add .i64 (.iv 0) (.n 1))] [] [(.v 5)])))) (.brk 2 [(.iv 0)] [] [(.v 3)]))
def k11_2 : Vx.T := (.rq (.cm .eql (.iv 0) (.n 2)) (.ret [(.n 0)] [] [(.v 3)]))
def t11 : Vx.T := (.call 12 [] [] [(.v 1)] 0 1 0 (.ite (.nt (.bv 0)) (.ret [(.n 2)] [] [.nil]) (.call 28 [] [] [(.v 0)] 0 0 1 (.lp [(.n 0)] [] [(.v 2)] 1 0 1 l11_1 k11_2))))
def a11 : Tab := [⟨12, s12, F12⟩, ⟨28, s28, F28⟩, ⟨29, s29, F29⟩]
theorem x11 : sxFn Try.prog (Tab.sig a11) (inlN Try.prog (Tab.sig a11) (hintOf hs) 6) H11 Try.f11 (Try.f11.body.getD .skip) s11 = t11 := by kernel_rfl
theorem e11_12 : Tab.fn a11 12 = F12 := by kernel_rfl
theorem e11_28 : Tab.fn a11 28 = F28 := by kernel_rfl
theorem e11_29 : Tab.fn a11 29 = F29 := by kernel_rfl
def F11 : Vx.Fn := Vx.Fd t11 (Tab.fn a11)
theorem g11 : Vx.Good Try.prog True_ 11 s11 F11 := good_of_tree hm hI (gcons g12 (gcons g28 (gcons g29 Tab.Good.nil))) H11 hs 6 Try.func11 rfl (by kernel_rfl) x11
/-! trammel/trammelref06.All -/
def s21 : Sig := ⟨[(.v (.lf [(.i .i64), (.i .i64), (.i .i64), (.i .i64), (.sl [(.i .i64)])]))], [(.v (.lo 5 [(.i .u8)]))]⟩
def H21 : Hint := ⟨[], [(4, some ⟨[(3, false, [.lo 5 [(.i .u8)]]), (4, false, [.i .i64])], [], [], [5, 6, 7, 8, 9, 10, 11, 12, 13, 14, 15, 16, 17], [], []⟩)], [], 12, false⟩
def l21_1 : Vx.T := (.ite (.cm .lss (.iv 0) (.ln 0)) (.rq (.cm .geq (.iv 0) (.n 0)) (.lst [(.cl 0 (.iv 0) 4)] (.call 19 [(.ix 0 (.iv 0) 0), (.ix 0 (.iv 0) 1), (.ix 0 (.iv 0) 2), (.ix 0 (.iv 0) 3)] [] [(.v 2)] 0 0 1 (.rq (.an (.cm .leq (.ln 1) (.n 17592186044416)) (.cm .leq (.ln 3) (.n 17592186044416))) (.lst [(.ap (.v 1) (.v 3))] (.nxt [(.ar .add .i64 (.iv 0) (.n 1))] [] [(.v 4)])))))) (.brk 2 [(.iv 0)] [] [(.v 1)]))
def k21_2 : Vx.T := (.rq (.cm .eql (.iv 0) (.n 2)) (.ret [] [] [(.v 1)]))
def t21 : Vx.T := (.lp [(.n 0)] [] [.nil] 1 0 1 l21_1 k21_2)
def a21 : Tab := [⟨19, s19, F19⟩]
theorem x21 : sxFn Try.prog (Tab.sig a21) (inlN Try.prog (Tab.sig a21) (hintOf hs) 6) H21 Try.f21 (Try.f21.body.getD .skip) s21 = t21 := by kernel_rfl
theorem e21_19 : Tab.fn a21 19 = F19 := by kernel_rfl
def F21 : Vx.Fn := Vx.Fd t21 (Tab.fn a21)
theorem g21 : Vx.Good Try.prog True_ 21 s21 F21 := good_of_tree hm hI (gcons g19 Tab.Good.nil) H21 hs 6 Try.func21 rfl (by kernel_rfl) x21
/-! trammel/trammelref06.Body -/
def s40 : Sig := ⟨[(.v (.lf [(.i .u8)]))], [(.v (.lo 34 [(.i .i64), (.i .i64), (.i .i64), (.i .i64), (.sl [(.i .i64)])])), (.v (.i .i64)), (.v (.i .i64))]⟩
def H40 : Hint := ⟨[], [(5, some ⟨[(2, false, [.lo 34 [(.i .i64), (.i .i64), (.i .i64), (.i .i64), (.sl [(.i .i64)])]]), (3, false, [.i .i64]), (4, false, [.i .i64]), (5, false, [.lo 34 [(.i .i64), (.i .i64), (.i .i64), (.i .i64), (.sl [(.i .i64)])]]), (6, false, [.s]), (7, false, [.i .i64])], [], [], [8, 9, 10, 11, 12, 13, 14, 15, 16, 17, 18, 19, 20, 21, 22, 23, 24, 25, 26, 27, 28, 29, 30, 31, 32, 33, 34, 35, 36, 37, 38, 39, 40, 41, 42, 43, 44, 45, 46, 47, 48, 49, 50, 51, 52, 53, 54, 55, 56, 57, 58, 59, 60, 61, 62, 63, 64, 65, 66, 67, 68, 69, 70, 71, 72, 73, 74, 75, 76, 77, 78, 79, 80, 81, 82, 83, 84, 85, 86, 87, 88], [], []⟩)], [], 12, false⟩
def l40_1 : Vx.T := (.call 32 [(.iv 2)] [] [(.v 0)] 6 0 1 (.ite (.cm .neq (.iv 8) (.n 0)) (.rt (.ret [(.n 0), (.iv 8)] [] [.nil])) (.ite (.cm .eql (.ln 2) (.n 2000)) (.rt (.ret [(.n 0), (.n 4)] [] [.nil])) (.lb (.an (.cm .geq (.iv 3) (.n 2)) (.cm .leq (.iv 3) (.n 4))) (.ite (.bv 0) (.ite (.cm .eql (.ln 3) (.n 64)) (.rt (.ret [(.n 0), (.n 4)] [] [.nil])) (.rq (.an (.cm .leq (.n 0) (.cv .i32 (.ar .add .i64 (.n 48) (.iv 3)))) (.cm .leq (.cv .i32 (.ar .add .i64 (.n 48) (.iv 3))) (.n 127))) (.lst [(.els [[(.i (.cv .i32 (.ar .add .i64 (.n 48) (.iv 3))))]])] (.rq (.an (.cm .leq (.ln 3) (.n 1099511627776)) (.cm .leq (.ln 5) (.n 1099511627776))) (.lst [(.ap (.v 3) (.v 5))] (.lst [(.els [[(.i (.iv 3)), (.i (.iv 4)), (.i (.iv 5)), (.i (.iv 6)), (.l 4)]])] (.rq (.an (.cm .leq (.ln 2) (.n 617269685768)) (.cm .leq (.ln 7) (.n 617269685768))) (.lst [(.ap (.v 2) (.v 7))] (.nxt [(.iv 0), (.iv 1), (.iv 7)] [] [(.v 1), (.v 8), (.v 6)]))))))))) (.ite (.cm .eql (.iv 3) (.n 5)) (.rq (.oo (.cm .eql (.ln 3) (.n 0)) (.an (.cm .geq (.ar .sub .i64 (.ln 3) (.n 1)) (.n 0)) (.cm .lss (.ar .sub .i64 (.ln 3) (.n 1)) (.ln 3)))) (.lb (.oo (.cm .eql (.ln 3) (.n 0)) (.cm .neq (.ix 3 (.ar .sub .i64 (.ln 3) (.n 1)) 0) (.n 52))) (.ite (.bv 1) (.rt (.ret [(.n 0), (.n 2)] [] [.nil])) (.rq (.an (.cm .leq (.n 0) (.ar .sub .i64 (.ln 3) (.n 1))) (.cm .leq (.ar .sub .i64 (.ln 3) (.n 1)) (.ln 3))) (.lst [(.cut (.v 3) (.n 0) (.ar .sub .i64 (.ln 3) (.n 1)))] (.rq (.cm .leq (.ln 5) (.n 1099511627776)) (.lst [(.ap (.v 5) (.s [53]))] (.lst [(.els [[(.i (.iv 3)), (.i (.iv 4)), (.i (.iv 5)), (.i (.iv 6)), (.l 4)]])] (.rq (.an (.cm .leq (.ln 2) (.n 617269685768)) (.cm .leq (.ln 7) (.n 617269685768))) (.lst [(.ap (.v 2) (.v 7))] (.nxt [(.iv 0), (.iv 1), (.iv 7)] [] [(.v 1), (.v 8), (.v 6)]))))))))))) (.lb (.an (.cm .eql (.iv 3) (.n 11)) (.cm .gtr (.ln 3) (.n 0))) (.ite (.bv 1) (.rq (.an (.cm .leq (.n 0) (.ar .sub .i64 (.ln 3) (.n 1))) (.cm .leq (.ar .sub .i64 (.ln 3) (.n 1)) (.ln 3))) (.lst [(.cut (.v 3) (.n 0) (.ar .sub .i64 (.ln 3) (.n 1)))] (.lst [(.els [[(.i (.iv 3)), (.i (.iv 4)), (.i (.iv 5)), (.i (.iv 6)), (.l 4)]])] (.rq (.an (.cm .leq (.ln 2) (.n 617269685768)) (.cm .leq (.ln 6) (.n 617269685768))) (.lst [(.ap (.v 2) (.v 6))] (.nxt [(.iv 0), (.iv 1), (.iv 7)] [] [(.v 1), (.v 7), (.v 5)])))))) (.ite (.cm .eql (.iv 3) (.n 11)) (.lst [(.els [[(.i (.iv 3)), (.i (.iv 4)), (.i (.iv 5)), (.i (.iv 6)), (.l 4)]])] (.rq (.an (.cm .leq (.ln 2) (.n 617269685768)) (.cm .leq (.ln 5) (.n 617269685768))) (.lst [(.ap (.v 2) (.v 5))] (.rt (.ret [(.iv 7), (.n 0)] [] [(.v 6)]))))) (.lst [(.els [[(.i (.iv 3)), (.i (.iv 4)), (.i (.iv 5)), (.i (.iv 6)), (.l 4)]])] (.rq (.an (.cm .leq (.ln 2) (.n 617269685768)) (.cm .leq (.ln 5) (.n 617269685768))) (.lst [(.ap (.v 2) (.v 5))] (.nxt [(.iv 0), (.iv 1), (.iv 7)] [] [(.v 1), (.v 6), (.v 3)])))))))))))))
def k40_2 : Vx.T := (.fail 8)
def t40 : Vx.T := (.lp [(.n 0), (.n 0), (.n 0)] [] [.nil, .nil, (.s [])] 3 0 3 l40_1 k40_2)
def a40 : Tab := [⟨32, s32, F32⟩]
theorem x40 : sxFn Try.prog (Tab.sig a40) (inlN Try.prog (Tab.sig a40) (hintOf hs) 6) H40 Try.f40 (Try.f40.body.getD .skip) s40 = t40 := by kernel_rfl
theorem e40_32 : Tab.fn a40 32 = F32 := by kernel_rfl
def F40 : Vx.Fn := Vx.Fd t40 (Tab.fn a40)
theorem g40 : Vx.Good Try.prog True_ 40 s40 F40 := good_of_tree hm hI (gcons g32 Tab.Good.nil) H40 hs 6 Try.func40 rfl (by kernel_rfl) x40
/-! trammel/trammelref06.SameAll -/
def s22 : Sig := ⟨[(.v (.lf [(.i .i64), (.i .i64), (.i .i64), (.i .i64), (.sl [(.i .i64)])])), (.v (.lf [(.i .i64), (.i .i64), (.i .i64), (.i .i64), (.sl [(.i .i64)])]))], [(.v .b)]⟩
def H22 : Hint := ⟨[], [(5, some ⟨[(4, false, [.b]), (5, false, [.i .i64])], [], [], [11, 12, 13, 14, 15, 16, 17, 18, 19, 20, 21, 22, 23, 24, 25, 26], [], []⟩)], [], 12, false⟩
def l22_1 : Vx.T := (.ite (.cm .lss (.iv 0) (.ln 0)) (.rq (.cm .geq (.iv 0) (.n 0)) (.rq (.cm .lss (.iv 0) (.ln 1)) (.both (.lst [(.cl 0 (.iv 0) 4)] (.lst [(.cl 1 (.iv 0) 4)] (.call 24 [(.ix 0 (.iv 0) 0), (.ix 0 (.iv 0) 1), (.ix 0 (.iv 0) 2), (.ix 0 (.iv 0) 3), (.ix 1 (.iv 0) 0), (.ix 1 (.iv 0) 1), (.ix 1 (.iv 0) 2), (.ix 1 (.iv 0) 3)] [] [(.v 2), (.v 3)] 0 1 0 (.ite (.nt (.bv 1)) (.rt (.ret [] [(.t false)] [])) (.nxt [(.ar .add .i64 (.iv 0) (.n 1))] [(.bv 0)] []))))) (.lst [(.cl 1 (.iv 0) 4)] (.lst [(.cl 0 (.iv 0) 4)] (.call 24 [(.ix 0 (.iv 0) 0), (.ix 0 (.iv 0) 1), (.ix 0 (.iv 0) 2), (.ix 0 (.iv 0) 3), (.ix 1 (.iv 0) 0), (.ix 1 (.iv 0) 1), (.ix 1 (.iv 0) 2), (.ix 1 (.iv 0) 3)] [] [(.v 3), (.v 2)] 0 1 0 (.ite (.nt (.bv 1)) (.rt (.ret [] [(.t false)] [])) (.nxt [(.ar .add .i64 (.iv 0) (.n 1))] [(.bv 0)] [])))))))) (.brk 2 [(.iv 0)] [(.bv 0)] []))
def k22_2 : Vx.T := (.rq (.cm .eql (.iv 0) (.n 2)) (.ret [] [(.t true)] []))
def t22 : Vx.T := (.ite (.cm .neq (.ln 0) (.ln 1)) (.ret [] [(.t false)] []) (.lp [(.n 0)] [(.t false)] [] 1 1 0 l22_1 k22_2))
def a22 : Tab := [⟨24, s24, F24⟩]
theorem x22 : sxFn Try.prog (Tab.sig a22) (inlN Try.prog (Tab.sig a22) (hintOf hs) 6) H22 Try.f22 (Try.f22.body.getD .skip) s22 = t22 := by kernel_rfl
theorem e22_24 : Tab.fn a22 24 = F24 := by kernel_rfl
def F22 : Vx.Fn := Vx.Fd t22 (Tab.fn a22)
theorem g22 : Vx.Good Try.prog True_ 22 s22 F22 := good_of_tree hm hI (gcons g24 Tab.Good.nil) H22 hs 6 Try.func22 rfl (by kernel_rfl) x22
/-! trammel/trammelref06.Closed -/
def s20 : Sig := ⟨[(.v (.lf [(.i .i64), (.i .i64), (.i .i64), (.i .i64), (.sl [(.i .i64)])]))], [(.v .b)]⟩
def H20 : Hint := ⟨[], [(3, some ⟨[(2, false, [.b]), (3, false, [.i .i64])], [], [], [8, 9, 10, 11, 12, 13, 14, 15, 16, 17, 18, 19], [], []⟩)], [], 12, false⟩
def l20_1 : Vx.T := (.ite (.cm .lss (.iv 0) (.ln 0)) (.rq (.cm .geq (.iv 0) (.n 0)) (.lst [(.cl 0 (.iv 0) 4)] (.call 15 [(.ix 0 (.iv 0) 0), (.ix 0 (.iv 0) 1), (.ix 0 (.iv 0) 2), (.ix 0 (.iv 0) 3)] [] [(.v 1)] 0 1 0 (.ite (.nt (.bv 1)) (.rt (.ret [] [(.t false)] [])) (.nxt [(.ar .add .i64 (.iv 0) (.n 1))] [(.bv 0)] []))))) (.brk 2 [(.iv 0)] [(.bv 0)] []))
def k20_2 : Vx.T := (.rq (.cm .eql (.iv 0) (.n 2)) (.call 21 [] [] [(.v 0)] 0 0 1 (.call 40 [] [] [(.v 1)] 2 0 1 (.lb (.an (.cm .eql (.iv 3) (.n 0)) (.cm .eql (.iv 2) (.ln 1))) (.ite (.bv 1) (.call 22 [] [] [(.v 0), (.v 2)] 0 1 0 (.ret [] [(.bv 2)] [])) (.ret [] [(.t false)] []))))))
def t20 : Vx.T := (.lp [(.n 0)] [(.t false)] [] 1 1 0 l20_1 k20_2)
def a20 : Tab := [⟨15, s15, F15⟩, ⟨21, s21, F21⟩, ⟨40, s40, F40⟩, ⟨22, s22, F22⟩]
theorem x20 : sxFn Try.prog (Tab.sig a20) (inlN Try.prog (Tab.sig a20) (hintOf hs) 6) H20 Try.f20 (Try.f20.body.getD .skip) s20 = t20 := by kernel_rfl
theorem e20_15 : Tab.fn a20 15 = F15 := by kernel_rfl
theorem e20_21 : Tab.fn a20 21 = F21 := by kernel_rfl
theorem e20_40 : Tab.fn a20 40 = F40 := by kernel_rfl
theorem e20_22 : Tab.fn a20 22 = F22 := by kernel_rfl
def F20 : Vx.Fn := Vx.Fd t20 (Tab.fn a20)
theorem g20 : Vx.Good Try.prog True_ 20 s20 F20 := good_of_tree hm hI (gcons g15 (gcons g21 (gcons g40 (gcons g22 Tab.Good.nil)))) H20 hs 6 Try.func20 rfl (by kernel_rfl) x20
/-! trammel/trammellaw06.InstrPuts -/
def s5 : Sig := ⟨[(.v (.lf [(.i .u8)])), (.agg [(.i .i64), (.i .i64), (.i .i64), (.i .i64), (.lf [(.i .i64)])]), (.v (.lf [(.i .i64), (.i .i64), (.i .i64), (.i .i64), (.sl [(.i .i64)])]))], [(.v .b)]⟩
def H5 : Hint := ⟨[], [], [], 12, false⟩
def b5_1 : Vx.T := (.ite (.an (.nt (.bv 5)) (.bv 3)) (.call 18 [] [] [(.v 0)] 0 0 1 (.call 19 [(.iv 0), (.iv 1), (.iv 2), (.iv 3)] [] [(.v 1)] 0 0 1 (.rq (.an (.cm .leq (.ln 5) (.n 17592186044416)) (.cm .leq (.ln 6) (.n 17592186044416))) (.lst [(.ap (.v 5) (.v 6))] (.call 17 [] [] [(.v 4), (.v 7)] 0 1 0 (.ite (.nt (.bv 6)) (.ret [] [(.t false)] []) (.call 11 [] [] [(.v 0), (.v 3)] 1 0 1 (.call 20 [] [] [(.v 2)] 0 1 0 (.call 12 [] [] [(.v 3)] 0 1 0 (.lb (.oo (.nt (.be (.bv 8) (.bv 7))) (.nt (.be (.bv 7) (.cm .eql (.iv 5) (.n 0))))) (.ite (.an (.nt (.bv 9)) (.bv 7)) (.call 18 [] [] [(.v 0)] 0 0 1 (.call 21 [] [] [(.v 2)] 0 0 1 (.rq (.an (.cm .leq (.ln 9) (.n 17592186044416)) (.cm .leq (.ln 10) (.n 17592186044416))) (.lst [(.ap (.v 9) (.v 10))] (.call 17 [] [] [(.v 8), (.v 11)] 0 1 0 (.ite (.nt (.bv 10)) (.ret [] [(.t false)] []) (.call 22 [] [] [(.v 3), (.v 2)] 0 1 0 (.ret [] [(.bv 11)] [])))))))) (.lb (.oo (.cm .neq (.iv 5) (.n 2)) (.cm .neq (.ln 8) (.n 0))) (.ite (.oo (.bv 9) (.an (.nt (.bv 7)) (.bv 10))) (.ret [] [(.t false)] []) (.call 22 [] [] [(.v 3), (.v 2)] 0 1 0 (.ret [] [(.bv 11)] []))))))))))))))) (.lb (.oo (.cm .neq (.iv 4) (.n 2)) (.cm .neq (.ln 4) (.n 0))) (.ite (.oo (.bv 5) (.an (.nt (.bv 3)) (.bv 6))) (.ret [] [(.t false)] []) (.call 11 [] [] [(.v 0), (.v 3)] 1 0 1 (.call 20 [] [] [(.v 2)] 0 1 0 (.call 12 [] [] [(.v 3)] 0 1 0 (.lb (.oo (.nt (.be (.bv 8) (.bv 7))) (.nt (.be (.bv 7) (.cm .eql (.iv 5) (.n 0))))) (.ite (.an (.nt (.bv 9)) (.bv 7)) (.call 18 [] [] [(.v 0)] 0 0 1 (.call 21 [] [] [(.v 2)] 0 0 1 (.rq (.an (.cm .leq (.ln 6) (.n 17592186044416)) (.cm .leq (.ln 7) (.n 17592186044416))) (.lst [(.ap (.v 6) (.v 7))] (.call 17 [] [] [(.v 5), (.v 8)] 0 1 0 (.ite (.nt (.bv 10)) (.ret [] [(.t false)] []) (.call 22 [] [] [(.v 3), (.v 2)] 0 1 0 (.ret [] [(.bv 11)] [])))))))) (.lb (.oo (.cm .neq (.iv 5) (.n 2)) (.cm .neq (.ln 5) (.n 0))) (.ite (.oo (.bv 9) (.an (.nt (.bv 7)) (.bv 10))) (.ret [] [(.t false)] []) (.call 22 [] [] [(.v 3), (.v 2)] 0 1 0 (.ret [] [(.bv 11)] []))))))))))))
def t5 : Vx.T := (.call 8 [] [] [] 0 1 0 (.ite (.nt (.bv 0)) (.ret [] [(.t false)] []) (.call 10 [] [] [(.v 2)] 0 1 0 (.lb (.oo (.oo (.nt (.bv 1)) (.cm .gtr (.ln 1) (.n 100))) (.cm .gtr (.ln 0) (.n 1000))) (.ite (.bv 2) (.ret [] [(.t true)] []) (.call 13 [] [] [(.v 2)] 0 0 1 (.call 14 [(.iv 0), (.iv 1), (.iv 2), (.iv 3)] [] [(.v 0), (.v 1)] 1 0 1 (.call 15 [(.iv 0), (.iv 1), (.iv 2), (.iv 3)] [] [(.v 1)] 0 1 0 (.call 16 [(.iv 0), (.iv 1), (.iv 2), (.iv 3)] [] [(.v 1)] 0 1 0 (.lb (.oo (.nt (.be (.bv 4) (.bv 3))) (.nt (.be (.bv 3) (.cm .eql (.iv 4) (.n 0))))) (.both b5_1 b5_1)))))))))))
def a5 : Tab := [⟨8, s8, F8⟩, ⟨10, s10, F10⟩, ⟨13, s13, F13⟩, ⟨14, s14, F14⟩, ⟨15, s15, F15⟩, ⟨16, s16, F16⟩, ⟨18, s18, F18⟩, ⟨19, s19, F19⟩, ⟨17, s17, F17⟩, ⟨11, s11, F11⟩, ⟨20, s20, F20⟩, ⟨12, s12, F12⟩, ⟨21, s21, F21⟩, ⟨22, s22, F22⟩]
theorem x5 : sxFn Try.prog (Tab.sig a5) (inlN Try.prog (Tab.sig a5) (hintOf hs) 6) H5 Try.f5 (Try.f5.body.getD .skip) s5 = t5 := by kernel_rfl
theorem e5_8 : Tab.fn a5 8 = F8 := by kernel_rfl
theorem e5_10 : Tab.fn a5 10 = F10 := by kernel_rfl
theorem e5_13 : Tab.fn a5 13 = F13 := by kernel_rfl
theorem e5_14 : Tab.fn a5 14 = F14 := by kernel_rfl
theorem e5_15 : Tab.fn a5 15 = F15 := by kernel_rfl
theorem e5_16 : Tab.fn a5 16 = F16 := by kernel_rfl
theorem e5_18 : Tab.fn a5 18 = F18 := by kernel_rfl
theorem e5_19 : Tab.fn a5 19 = F19 := by kernel_rfl
theorem e5_17 : Tab.fn a5 17 = F17 := by kernel_rfl
theorem e5_11 : Tab.fn a5 11 = F11 := by kernel_rfl
theorem e5_20 : Tab.fn a5 20 = F20 := by kernel_rfl
theorem e5_12 : Tab.fn a5 12 = F12 := by kernel_rfl
theorem e5_21 : Tab.fn a5 21 = F21 := by kernel_rfl
theorem e5_22 : Tab.fn a5 22 = F22 := by kernel_rfl
def F5 : Vx.Fn := Vx.Fd t5 (Tab.fn a5)
theorem g5 : Vx.Good Try.prog True_ 5 s5 F5 := good_of_tree hm hI (gcons g8 (gcons g10 (gcons g13 (gcons g14 (gcons g15 (gcons g16 (gcons g18 (gcons g19 (gcons g17 (gcons g11 (gcons g20 (gcons g12 (gcons g21 (gcons g22 Tab.Good.nil)))))))))))))) H5 hs 6 Try.func5 rfl (by kernel_rfl) x5
end Go.Proofs.Ytmfjapphmmlppaa.XInstrPuts

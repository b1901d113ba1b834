/-
  NumDoes: the law: what num.Un, num.Bin and num.Types answer is what the reference answers.
-/
import Derived.Test.YtghekmcdokgkkaaDoorNumFNumDoes
namespace Go.Proofs.YtghekmcdokgkkaaDoor.YNumDoes
set_option linter.all false
set_option maxHeartbeats 2000000
set_option maxRecDepth 100000
open Go.Proofs.YtghekmcdokgkkaaDoor.Vx Go.Proofs.YtghekmcdokgkkaaDoor.XNumDoes Go.Proofs.YtghekmcdokgkkaaDoor.Vd Go.Proofs.YtghekmcdokgkkaaDoor.Vn Go.Proofs.YtghekmcdokgkkaaDoor.Vl Go.Proofs.YtghekmcdokgkkaaDoor.Vp Go.Proofs.YtghekmcdokgkkaaDoor.Vb Go.Proofs.YtghekmcdokgkkaaDoor.Vo Go.Proofs.YtghekmcdokgkkaaDoor.ANumDoes Go.Proofs.YtghekmcdokgkkaaDoor.BNumDoes Go.Proofs.YtghekmcdokgkkaaDoor.CNumDoes Go.Proofs.YtghekmcdokgkkaaDoor.DNumDoes Go.Proofs.YtghekmcdokgkkaaDoor.ENumDoes Go.Proofs.YtghekmcdokgkkaaDoor.FNumDoes Go.Proofs.YtghekmcdokgkkaaDoor.ENumDoes
theorem q9 : F9 [] [] [] = some ([], [true], []) := by kernel_rfl
def Lgood (L : List D) : Prop := L = [] ∨ L = [D.i 127] ∨ L = [D.i 126] ∨ L = [D.i 127, D.i 127] ∨ L = [D.i 126, D.i 126]
def Ok (op : Int) (a b : Nat) : Prop := ∃ (n : Int) (ok : Bool) (n2 t : Int) (ok2 : Bool) (L : List D) (o : Int) (k : Bool),
  F11 [op, (a : Int)] [] [] = some ([n], [ok], []) ∧ F12 [op, (a : Int)] [] [] = some ([n], [ok], []) ∧
  F10 [op, (a : Int), (b : Int)] [] [] = some ([n2, t], [ok2], []) ∧ F13 [op, (a : Int), (b : Int)] [] [] = some ([n2, t], [ok2], []) ∧
  F14 [op] [] [] = some ([o], [k], [L]) ∧ F15 [op] [] [] = some ([o], [k], [L]) ∧ Lgood L
theorem eqs (n : Int) : (n != n) = false := by simp
theorem beqs (b : Bool) : (!(b == b)) = false := by cases b <;> rfl
theorem loop_end {x0 x1 x2 x3 x4 x5 x6 x7 x8 x9 x10 : Int} {c0 c1 c2 c3 c4 c5 c6 c7 c8 c9 : Bool} {L : List D} (hL : Lgood L) :
    (Vx.T.lp [(.n 0)] [(.t false)] [] 1 1 0 l7_1 k7_2).den (Tab.fn a7) [x0, x1, x2, x3, x4, x5, x6, x7, x8, x9, x10] [c0, c1, c2, c3, c4, c5, c6, c7, c8, c9] [L, L] = some (.ret ([], [true], [])) := by
  rcases hL with rfl | rfl | rfl | rfl | rfl <;> kernel_rfl
theorem law_of {op : Int} {a b : Nat} (h : Ok op a b) : F7 [op, (a : Int), (b : Int)] [] [] = some ([], [true], []) := by
  obtain ⟨n, ok, n2, t, ok2, L, o, k, h11, h12, h10, h13, h14, h15, hL⟩ := h
  refine of_ret ?_
  unfold t7
  refine d_callx [] [] [] _ e7_9 rfl rfl rfl q9 rfl (d_itF rfl ?_)
  refine d_callx [op, (a : Int)] [] [] _ e7_11 rfl rfl rfl h11 rfl ?_
  refine d_callx [op, (a : Int)] [] [] _ e7_12 rfl rfl rfl h12 rfl ?_
  refine d_lb false (show ((n != n) || !(ok == ok)) = false by rw [eqs, beqs]; rfl) (d_itF rfl ?_)
  refine d_callx [op, (a : Int), (b : Int)] [] [] _ e7_10 rfl rfl rfl h10 rfl ?_
  refine d_callx [op, (a : Int), (b : Int)] [] [] _ e7_13 rfl rfl rfl h13 rfl ?_
  refine d_lb false (show ((n2 != n2) || (t != t)) = false by rw [eqs, eqs]; rfl) (d_itF (show (false || !(ok2 == ok2)) = false by rw [beqs]; rfl) ?_)
  refine d_callx [op] [] [] _ e7_14 rfl rfl rfl h14 rfl ?_
  refine d_callx [op] [] [] _ e7_15 rfl rfl rfl h15 rfl ?_
  refine d_lb false (show (!(k == k) || (o != o)) = false by rw [eqs, beqs]; rfl) (d_itF (show (false || ((L.length : Int) != (L.length : Int))) = false by rw [eqs]; rfl) ?_)
  exact loop_end hL
theorem ok_all (op : Int) (a b : Nat) (ha : a < 2 ^ 64) (hb : b < 2 ^ 64) : Ok op a b := by
  by_cases hU : notU op
  · by_cases hB : notB op
    · exact ⟨_, _, _, _, _, _, _, _, v11 (x11_out hU), u_out ha hU, v10 (x10_out hB), b_out hB, t14_out hU hB, t15_out hU hB, .inl rfl⟩
    · have hc : op = 70 ∨ op = 71 ∨ op = 72 ∨ op = 73 ∨ op = 74 ∨ op = 75 ∨ op = 76 ∨ op = 77 ∨ op = 78 ∨ op = 79 ∨ op = 81 ∨ op = 82 ∨ op = 83 ∨ op = 84 ∨ op = 85 ∨ op = 86 ∨ op = 87 ∨ op = 88 ∨ op = 89 ∨ op = 90 ∨ op = 106 ∨ op = 107 ∨ op = 108 ∨ op = 109 ∨ op = 110 ∨ op = 111 ∨ op = 112 ∨ op = 113 ∨ op = 114 ∨ op = 115 ∨ op = 116 ∨ op = 117 ∨ op = 118 ∨ op = 119 ∨ op = 120 ∨ op = 124 ∨ op = 125 ∨ op = 126 ∨ op = 127 ∨ op = 128 ∨ op = 129 ∨ op = 130 ∨ op = 131 ∨ op = 132 ∨ op = 133 ∨ op = 134 ∨ op = 135 ∨ op = 136 ∨ op = 137 ∨ op = 138 := by unfold notB at hB; omega
      rcases hc with rfl | rfl | rfl | rfl | rfl | rfl | rfl | rfl | rfl | rfl | rfl | rfl | rfl | rfl | rfl | rfl | rfl | rfl | rfl | rfl | rfl | rfl | rfl | rfl | rfl | rfl | rfl | rfl | rfl | rfl | rfl | rfl | rfl | rfl | rfl | rfl | rfl | rfl | rfl | rfl | rfl | rfl | rfl | rfl | rfl | rfl | rfl | rfl | rfl | rfl
      · exact ⟨_, _, _, _, _, _, _, _, v11 (x11_out hU), u_out ha hU, v10 (n_70 ha hb rfl rfl), b_70 ha hb rfl rfl, t14_70, t15_70, (.inr (.inr (.inr (.inl rfl))))⟩
      · exact ⟨_, _, _, _, _, _, _, _, v11 (x11_out hU), u_out ha hU, v10 (n_71 ha hb rfl rfl), b_71 ha hb rfl rfl, t14_71, t15_71, (.inr (.inr (.inr (.inl rfl))))⟩
      · exact ⟨_, _, _, _, _, _, _, _, v11 (x11_out hU), u_out ha hU, v10 (n_72 ha hb rfl rfl), b_72 ha hb rfl rfl, t14_72, t15_72, (.inr (.inr (.inr (.inl rfl))))⟩
      · exact ⟨_, _, _, _, _, _, _, _, v11 (x11_out hU), u_out ha hU, v10 (n_73 ha hb rfl rfl), b_73 ha hb rfl rfl, t14_73, t15_73, (.inr (.inr (.inr (.inl rfl))))⟩
      · exact ⟨_, _, _, _, _, _, _, _, v11 (x11_out hU), u_out ha hU, v10 (n_74 ha hb rfl rfl), b_74 ha hb rfl rfl, t14_74, t15_74, (.inr (.inr (.inr (.inl rfl))))⟩
      · exact ⟨_, _, _, _, _, _, _, _, v11 (x11_out hU), u_out ha hU, v10 (n_75 ha hb rfl rfl), b_75 ha hb rfl rfl, t14_75, t15_75, (.inr (.inr (.inr (.inl rfl))))⟩
      · exact ⟨_, _, _, _, _, _, _, _, v11 (x11_out hU), u_out ha hU, v10 (n_76 ha hb rfl rfl), b_76 ha hb rfl rfl, t14_76, t15_76, (.inr (.inr (.inr (.inl rfl))))⟩
      · exact ⟨_, _, _, _, _, _, _, _, v11 (x11_out hU), u_out ha hU, v10 (n_77 ha hb rfl rfl), b_77 ha hb rfl rfl, t14_77, t15_77, (.inr (.inr (.inr (.inl rfl))))⟩
      · exact ⟨_, _, _, _, _, _, _, _, v11 (x11_out hU), u_out ha hU, v10 (n_78 ha hb rfl rfl), b_78 ha hb rfl rfl, t14_78, t15_78, (.inr (.inr (.inr (.inl rfl))))⟩
      · exact ⟨_, _, _, _, _, _, _, _, v11 (x11_out hU), u_out ha hU, v10 (n_79 ha hb rfl rfl), b_79 ha hb rfl rfl, t14_79, t15_79, (.inr (.inr (.inr (.inl rfl))))⟩
      · exact ⟨_, _, _, _, _, _, _, _, v11 (x11_out hU), u_out ha hU, v10 (n_81 ha hb rfl rfl), b_81 ha hb rfl rfl, t14_81, t15_81, (.inr (.inr (.inr (.inr rfl))))⟩
      · exact ⟨_, _, _, _, _, _, _, _, v11 (x11_out hU), u_out ha hU, v10 (n_82 ha hb rfl rfl), b_82 ha hb rfl rfl, t14_82, t15_82, (.inr (.inr (.inr (.inr rfl))))⟩
      · exact ⟨_, _, _, _, _, _, _, _, v11 (x11_out hU), u_out ha hU, v10 (n_83 ha hb rfl rfl), b_83 ha hb rfl rfl, t14_83, t15_83, (.inr (.inr (.inr (.inr rfl))))⟩
      · exact ⟨_, _, _, _, _, _, _, _, v11 (x11_out hU), u_out ha hU, v10 (n_84 ha hb rfl rfl), b_84 ha hb rfl rfl, t14_84, t15_84, (.inr (.inr (.inr (.inr rfl))))⟩
      · exact ⟨_, _, _, _, _, _, _, _, v11 (x11_out hU), u_out ha hU, v10 (n_85 ha hb rfl rfl), b_85 ha hb rfl rfl, t14_85, t15_85, (.inr (.inr (.inr (.inr rfl))))⟩
      · exact ⟨_, _, _, _, _, _, _, _, v11 (x11_out hU), u_out ha hU, v10 (n_86 ha hb rfl rfl), b_86 ha hb rfl rfl, t14_86, t15_86, (.inr (.inr (.inr (.inr rfl))))⟩
      · exact ⟨_, _, _, _, _, _, _, _, v11 (x11_out hU), u_out ha hU, v10 (n_87 ha hb rfl rfl), b_87 ha hb rfl rfl, t14_87, t15_87, (.inr (.inr (.inr (.inr rfl))))⟩
      · exact ⟨_, _, _, _, _, _, _, _, v11 (x11_out hU), u_out ha hU, v10 (n_88 ha hb rfl rfl), b_88 ha hb rfl rfl, t14_88, t15_88, (.inr (.inr (.inr (.inr rfl))))⟩
      · exact ⟨_, _, _, _, _, _, _, _, v11 (x11_out hU), u_out ha hU, v10 (n_89 ha hb rfl rfl), b_89 ha hb rfl rfl, t14_89, t15_89, (.inr (.inr (.inr (.inr rfl))))⟩
      · exact ⟨_, _, _, _, _, _, _, _, v11 (x11_out hU), u_out ha hU, v10 (n_90 ha hb rfl rfl), b_90 ha hb rfl rfl, t14_90, t15_90, (.inr (.inr (.inr (.inr rfl))))⟩
      · exact ⟨_, _, _, _, _, _, _, _, v11 (x11_out hU), u_out ha hU, v10 (n_106 ha hb rfl rfl), b_106 ha hb rfl rfl, t14_106, t15_106, (.inr (.inr (.inr (.inl rfl))))⟩
      · exact ⟨_, _, _, _, _, _, _, _, v11 (x11_out hU), u_out ha hU, v10 (n_107 ha hb rfl rfl), b_107 ha hb rfl rfl, t14_107, t15_107, (.inr (.inr (.inr (.inl rfl))))⟩
      · exact ⟨_, _, _, _, _, _, _, _, v11 (x11_out hU), u_out ha hU, v10 (n_108 ha hb rfl rfl), b_108 ha hb rfl rfl, t14_108, t15_108, (.inr (.inr (.inr (.inl rfl))))⟩
      · exact ⟨_, _, _, _, _, _, _, _, v11 (x11_out hU), u_out ha hU, v10 (n_109 ha hb rfl rfl), b_109 ha hb rfl rfl, t14_109, t15_109, (.inr (.inr (.inr (.inl rfl))))⟩
      · exact ⟨_, _, _, _, _, _, _, _, v11 (x11_out hU), u_out ha hU, v10 (n_110 ha hb rfl rfl), b_110 ha hb rfl rfl, t14_110, t15_110, (.inr (.inr (.inr (.inl rfl))))⟩
      · exact ⟨_, _, _, _, _, _, _, _, v11 (x11_out hU), u_out ha hU, v10 (n_111 ha hb rfl rfl), b_111 ha hb rfl rfl, t14_111, t15_111, (.inr (.inr (.inr (.inl rfl))))⟩
      · exact ⟨_, _, _, _, _, _, _, _, v11 (x11_out hU), u_out ha hU, v10 (n_112 ha hb rfl rfl), b_112 ha hb rfl rfl, t14_112, t15_112, (.inr (.inr (.inr (.inl rfl))))⟩
      · exact ⟨_, _, _, _, _, _, _, _, v11 (x11_out hU), u_out ha hU, v10 (n_113 ha hb rfl rfl), b_113 ha hb rfl rfl, t14_113, t15_113, (.inr (.inr (.inr (.inl rfl))))⟩
      · exact ⟨_, _, _, _, _, _, _, _, v11 (x11_out hU), u_out ha hU, v10 (n_114 ha hb rfl rfl), b_114 ha hb rfl rfl, t14_114, t15_114, (.inr (.inr (.inr (.inl rfl))))⟩
      · exact ⟨_, _, _, _, _, _, _, _, v11 (x11_out hU), u_out ha hU, v10 (n_115 ha hb rfl rfl), b_115 ha hb rfl rfl, t14_115, t15_115, (.inr (.inr (.inr (.inl rfl))))⟩
      · exact ⟨_, _, _, _, _, _, _, _, v11 (x11_out hU), u_out ha hU, v10 (n_116 ha hb rfl rfl), b_116 ha hb rfl rfl, t14_116, t15_116, (.inr (.inr (.inr (.inl rfl))))⟩
      · exact ⟨_, _, _, _, _, _, _, _, v11 (x11_out hU), u_out ha hU, v10 (n_117 ha hb rfl rfl), b_117 ha hb rfl rfl, t14_117, t15_117, (.inr (.inr (.inr (.inl rfl))))⟩
      · exact ⟨_, _, _, _, _, _, _, _, v11 (x11_out hU), u_out ha hU, v10 (n_118 ha hb rfl rfl), b_118 ha hb rfl rfl, t14_118, t15_118, (.inr (.inr (.inr (.inl rfl))))⟩
      · exact ⟨_, _, _, _, _, _, _, _, v11 (x11_out hU), u_out ha hU, v10 (n_119 ha hb rfl rfl), b_119 ha hb rfl rfl, t14_119, t15_119, (.inr (.inr (.inr (.inl rfl))))⟩
      · exact ⟨_, _, _, _, _, _, _, _, v11 (x11_out hU), u_out ha hU, v10 (n_120 ha hb rfl rfl), b_120 ha hb rfl rfl, t14_120, t15_120, (.inr (.inr (.inr (.inl rfl))))⟩
      · exact ⟨_, _, _, _, _, _, _, _, v11 (x11_out hU), u_out ha hU, v10 (n_124 ha hb rfl rfl), b_124 ha hb rfl rfl, t14_124, t15_124, (.inr (.inr (.inr (.inr rfl))))⟩
      · exact ⟨_, _, _, _, _, _, _, _, v11 (x11_out hU), u_out ha hU, v10 (n_125 ha hb rfl rfl), b_125 ha hb rfl rfl, t14_125, t15_125, (.inr (.inr (.inr (.inr rfl))))⟩
      · exact ⟨_, _, _, _, _, _, _, _, v11 (x11_out hU), u_out ha hU, v10 (n_126 ha hb rfl rfl), b_126 ha hb rfl rfl, t14_126, t15_126, (.inr (.inr (.inr (.inr rfl))))⟩
      · exact ⟨_, _, _, _, _, _, _, _, v11 (x11_out hU), u_out ha hU, v10 (n_127 ha hb rfl rfl), b_127 ha hb rfl rfl, t14_127, t15_127, (.inr (.inr (.inr (.inr rfl))))⟩
      · exact ⟨_, _, _, _, _, _, _, _, v11 (x11_out hU), u_out ha hU, v10 (n_128 ha hb rfl rfl), b_128 ha hb rfl rfl, t14_128, t15_128, (.inr (.inr (.inr (.inr rfl))))⟩
      · exact ⟨_, _, _, _, _, _, _, _, v11 (x11_out hU), u_out ha hU, v10 (n_129 ha hb rfl rfl), b_129 ha hb rfl rfl, t14_129, t15_129, (.inr (.inr (.inr (.inr rfl))))⟩
      · exact ⟨_, _, _, _, _, _, _, _, v11 (x11_out hU), u_out ha hU, v10 (n_130 ha hb rfl rfl), b_130 ha hb rfl rfl, t14_130, t15_130, (.inr (.inr (.inr (.inr rfl))))⟩
      · exact ⟨_, _, _, _, _, _, _, _, v11 (x11_out hU), u_out ha hU, v10 (n_131 ha hb rfl rfl), b_131 ha hb rfl rfl, t14_131, t15_131, (.inr (.inr (.inr (.inr rfl))))⟩
      · exact ⟨_, _, _, _, _, _, _, _, v11 (x11_out hU), u_out ha hU, v10 (n_132 ha hb rfl rfl), b_132 ha hb rfl rfl, t14_132, t15_132, (.inr (.inr (.inr (.inr rfl))))⟩
      · exact ⟨_, _, _, _, _, _, _, _, v11 (x11_out hU), u_out ha hU, v10 (n_133 ha hb rfl rfl), b_133 ha hb rfl rfl, t14_133, t15_133, (.inr (.inr (.inr (.inr rfl))))⟩
      · exact ⟨_, _, _, _, _, _, _, _, v11 (x11_out hU), u_out ha hU, v10 (n_134 ha hb rfl rfl), b_134 ha hb rfl rfl, t14_134, t15_134, (.inr (.inr (.inr (.inr rfl))))⟩
      · exact ⟨_, _, _, _, _, _, _, _, v11 (x11_out hU), u_out ha hU, v10 (n_135 ha hb rfl rfl), b_135 ha hb rfl rfl, t14_135, t15_135, (.inr (.inr (.inr (.inr rfl))))⟩
      · exact ⟨_, _, _, _, _, _, _, _, v11 (x11_out hU), u_out ha hU, v10 (n_136 ha hb rfl rfl), b_136 ha hb rfl rfl, t14_136, t15_136, (.inr (.inr (.inr (.inr rfl))))⟩
      · exact ⟨_, _, _, _, _, _, _, _, v11 (x11_out hU), u_out ha hU, v10 (n_137 ha hb rfl rfl), b_137 ha hb rfl rfl, t14_137, t15_137, (.inr (.inr (.inr (.inr rfl))))⟩
      · exact ⟨_, _, _, _, _, _, _, _, v11 (x11_out hU), u_out ha hU, v10 (n_138 ha hb rfl rfl), b_138 ha hb rfl rfl, t14_138, t15_138, (.inr (.inr (.inr (.inr rfl))))⟩
  · have hc : op = 69 ∨ op = 80 ∨ op = 103 ∨ op = 104 ∨ op = 105 ∨ op = 121 ∨ op = 122 ∨ op = 123 ∨ op = 167 ∨ op = 172 ∨ op = 173 ∨ op = 192 ∨ op = 193 ∨ op = 194 ∨ op = 195 ∨ op = 196 := by unfold notU at hU; omega
    rcases hc with rfl | rfl | rfl | rfl | rfl | rfl | rfl | rfl | rfl | rfl | rfl | rfl | rfl | rfl | rfl | rfl
    · exact ⟨_, _, _, _, _, _, _, _, v11 (m_69 ha rfl), u_69 ha rfl, v10 (x10_out (by unfold notB; omega)), b_out (by unfold notB; omega), t14_69, t15_69, (.inr (.inl rfl))⟩
    · exact ⟨_, _, _, _, _, _, _, _, v11 (m_80 ha rfl), u_80 ha rfl, v10 (x10_out (by unfold notB; omega)), b_out (by unfold notB; omega), t14_80, t15_80, (.inr (.inr (.inl rfl)))⟩
    · exact ⟨_, _, _, _, _, _, _, _, v11 (m_103 ha rfl), u_103 ha rfl, v10 (x10_out (by unfold notB; omega)), b_out (by unfold notB; omega), t14_103, t15_103, (.inr (.inl rfl))⟩
    · exact ⟨_, _, _, _, _, _, _, _, v11 (m_104 ha rfl), u_104 ha rfl, v10 (x10_out (by unfold notB; omega)), b_out (by unfold notB; omega), t14_104, t15_104, (.inr (.inl rfl))⟩
    · exact ⟨_, _, _, _, _, _, _, _, v11 (m_105 ha rfl), u_105 ha rfl, v10 (x10_out (by unfold notB; omega)), b_out (by unfold notB; omega), t14_105, t15_105, (.inr (.inl rfl))⟩
    · exact ⟨_, _, _, _, _, _, _, _, v11 (m_121 ha rfl), u_121 ha rfl, v10 (x10_out (by unfold notB; omega)), b_out (by unfold notB; omega), t14_121, t15_121, (.inr (.inr (.inl rfl)))⟩
    · exact ⟨_, _, _, _, _, _, _, _, v11 (m_122 ha rfl), u_122 ha rfl, v10 (x10_out (by unfold notB; omega)), b_out (by unfold notB; omega), t14_122, t15_122, (.inr (.inr (.inl rfl)))⟩
    · exact ⟨_, _, _, _, _, _, _, _, v11 (m_123 ha rfl), u_123 ha rfl, v10 (x10_out (by unfold notB; omega)), b_out (by unfold notB; omega), t14_123, t15_123, (.inr (.inr (.inl rfl)))⟩
    · exact ⟨_, _, _, _, _, _, _, _, v11 (m_167 ha rfl), u_167 ha rfl, v10 (x10_out (by unfold notB; omega)), b_out (by unfold notB; omega), t14_167, t15_167, (.inr (.inr (.inl rfl)))⟩
    · exact ⟨_, _, _, _, _, _, _, _, v11 (m_172 ha rfl), u_172 ha rfl, v10 (x10_out (by unfold notB; omega)), b_out (by unfold notB; omega), t14_172, t15_172, (.inr (.inl rfl))⟩
    · exact ⟨_, _, _, _, _, _, _, _, v11 (m_173 ha rfl), u_173 ha rfl, v10 (x10_out (by unfold notB; omega)), b_out (by unfold notB; omega), t14_173, t15_173, (.inr (.inl rfl))⟩
    · exact ⟨_, _, _, _, _, _, _, _, v11 (m_192 ha rfl), u_192 ha rfl, v10 (x10_out (by unfold notB; omega)), b_out (by unfold notB; omega), t14_192, t15_192, (.inr (.inl rfl))⟩
    · exact ⟨_, _, _, _, _, _, _, _, v11 (m_193 ha rfl), u_193 ha rfl, v10 (x10_out (by unfold notB; omega)), b_out (by unfold notB; omega), t14_193, t15_193, (.inr (.inl rfl))⟩
    · exact ⟨_, _, _, _, _, _, _, _, v11 (m_194 ha rfl), u_194 ha rfl, v10 (x10_out (by unfold notB; omega)), b_out (by unfold notB; omega), t14_194, t15_194, (.inr (.inr (.inl rfl)))⟩
    · exact ⟨_, _, _, _, _, _, _, _, v11 (m_195 ha rfl), u_195 ha rfl, v10 (x10_out (by unfold notB; omega)), b_out (by unfold notB; omega), t14_195, t15_195, (.inr (.inr (.inl rfl)))⟩
    · exact ⟨_, _, _, _, _, _, _, _, v11 (m_196 ha rfl), u_196 ha rfl, v10 (x10_out (by unfold notB; omega)), b_out (by unfold notB; omega), t14_196, t15_196, (.inr (.inr (.inl rfl)))⟩
theorem law (op a b : Int) (w1 : (Lit.int .i64 op).wf = true) (w2 : (Lit.int .u64 a).wf = true) (w3 : (Lit.int .u64 b).wf = true) : F7 [op, a, b] [] [] = some ([], [true], []) := by
  obtain ⟨a0, a1⟩ := Sn.wf_u64 w2
  obtain ⟨b0, b1⟩ := Sn.wf_u64 w3
  obtain ⟨a, rfl⟩ := Int.eq_ofNat_of_zero_le a0
  obtain ⟨b, rfl⟩ := Int.eq_ofNat_of_zero_le b0
  exact law_of (ok_all op a b (by omega) (by omega))
end Go.Proofs.YtghekmcdokgkkaaDoor.YNumDoes

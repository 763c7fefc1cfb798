/- What the law reaches, as plain Lean functions, and that the machine's calls answer just that. -/
import Derived.Test.YtinldhpdfomcjaaPRaftMayx0
import Derived.Test.YtinldhpdfomcjaaPRaftMayx2
import Derived.Test.YtinldhpdfomcjaaPRaftMayx8
import Derived.Test.YtinldhpdfomcjaaPRaftMayx11
import Derived.Test.YtinldhpdfomcjaaPRaftMayx12
import Derived.Test.YtinldhpdfomcjaaPRaftMayx16
namespace Go.Proofs.Ytinldhpdfomcjaa.PRaftMay
open Go.RowKit Go.Proofs.YtinldhpdfomcjaaW.PrintWords Go.Proofs.YtinldhpdfomcjaaW.PrintLast Go.Proofs.YtinldhpdfomcjaaW.PrintMore
attribute [local go_sem] max2_int min2_int max_two min_two max_three min_three max_four min_four
set_option linter.unusedVariables false
set_option linter.unusedSimpArgs false
attribute [local go_sem] wrap64_l1 wrap64_l2 wrap64_l3 wrap64_l4 wrap64_l5
theorem kX1a {w0 : World} {g : Nat} {o : Obj} {Q : Prop} {N0 : Prop} (h : w0.heap[g]? = some o) (n0 : N0) (e : w0.heap[g]? = some o → N0 → Q := by intro h_ n0_; (with_reducible repeat (first | exact h_ | refine blk_drewN ?_ _ | refine blk_drew ?_ | refine blk_alloc ?_ _ | apply bp3 | apply bp6 | apply bp7 | apply bp10 | apply blk_far (hp := n0_))); first | done | exact h_) : Q := e h n0
mutual
def garnerlaw23_RaftMay.l0 : Nat → List (S37) → Int → Int → Int → List (S46) → Int → Int → Int → Int → Option (Bool)
 | 0, _, _, _, _, _, _, _, _, _ => none
 | k + 1, x0, x4, x386000, x386001, x386002, x386003, x386004, x386005, x386006 => if x4 < (x0.length : Int) then (if 0 ≤ x4 then ((garnerlaw06_Light.f k ((rd_T37 x0 x4).f1)).bind fun t388 => (if t388 = true then ((garnerlaw23_act.f k x386000 x386001 x386002 x386003 x386004 x386005 x386006 ((rd_T37 x0 x4).f0) ((rd_T37 x0 x4).f1) ((rd_T37 x0 x4).f2.f0) ((rd_T37 x0 x4).f2.f1) ((rd_T37 x0 x4).f2.f2) ((rd_T37 x0 x4).f3) ((rd_T37 x0 x4).f4)).bind fun bt391 => (if bt391.2.2.2.2.2.2.2 = 0 then (garnerlaw23_RaftMay.l1 k x0 x4 (wrap64 (bt391.1 + 1)) x386000 x386001 x386002 x386003 x386004 x386005 x386006 bt391.1 bt391.2.1 bt391.2.2.1 bt391.2.2.2.1 bt391.2.2.2.2.1 bt391.2.2.2.2.2.1 bt391.2.2.2.2.2.2.1) else (garnerlaw23_RaftMay.l0 k x0 (wrap64 (x4 + 1)) x386000 x386001 x386002 x386003 x386004 x386005 x386006))) else ((garnerlaw23_awake.f k).bind fun t389 => (some t389)))) else (none)) else ((garnerlaw23_awake.f k).bind fun t386 => (some t386))
def garnerlaw23_RaftMay.l1 : Nat → List (S37) → Int → Int → Int → Int → List (S46) → Int → Int → Int → Int → Int → Int → List (S46) → Int → Int → Int → Int → Option (Bool)
 | 0, _, _, _, _, _, _, _, _, _, _, _, _, _, _, _, _, _ => none
 | k + 1, x0, x4, x7, x386000, x386001, x386002, x386003, x386004, x386005, x386006, x402000, x402001, x402002, x402003, x402004, x402005, x402006 => if x7 ≤ x386005 then (if 0 ≤ x4 then (if x4 < (x0.length : Int) then (garnerlaw23_RaftMay.j2 k x0 x4 x7 (((rd_T37 x0 x4).f0) != 4) x386000 x386001 x386002 x386003 x386004 x386005 x386006 x402000 x402001 x402002 x402003 x402004 x402005 x402006) else (none)) else (none)) else (garnerlaw23_RaftMay.j2 k x0 x4 x7 false x386000 x386001 x386002 x386003 x386004 x386005 x386006 x402000 x402001 x402002 x402003 x402004 x402005 x402006)
def garnerlaw23_RaftMay.j2 : Nat → List (S37) → Int → Int → Bool → Int → Int → List (S46) → Int → Int → Int → Int → Int → Int → List (S46) → Int → Int → Int → Int → Option (Bool)
 | 0, _, _, _, _, _, _, _, _, _, _, _, _, _, _, _, _, _, _ => none
 | k + 1, x0, x4, x7, x57, x386000, x386001, x386002, x386003, x386004, x386005, x386006, x402000, x402001, x402002, x402003, x402004, x402005, x402006 => if x57 = true then ((raft_Get.f k x386000 x386001 x386002 x386003 x386004 x386005 x386006 x7).bind fun bt404 => ((raft_Get.f k x402000 x402001 x402002 x402003 x402004 x402005 x402006 x7).bind fun bt418 => (if bt404.2.2.2.2.2.2.2.2.2.2 = 0 then (if bt418.2.2.2.2.2.2.2.2.2.2 = 0 then ((garnerref06_Same.f k (([(⟨bt404.1, bt404.2.1, bt404.2.2.1, bt404.2.2.2.1, (⟨bt404.2.2.2.2.1, bt404.2.2.2.2.2.1, (⟨bt404.2.2.2.2.2.2.1, bt404.2.2.2.2.2.2.2.1, bt404.2.2.2.2.2.2.2.2.1, bt404.2.2.2.2.2.2.2.2.2.1⟩ : S42)⟩ : S44)⟩ : S46)] : List (S46))) (([(⟨bt418.1, bt418.2.1, bt418.2.2.1, bt418.2.2.2.1, (⟨bt418.2.2.2.2.1, bt418.2.2.2.2.2.1, (⟨bt418.2.2.2.2.2.2.1, bt418.2.2.2.2.2.2.2.1, bt418.2.2.2.2.2.2.2.2.1, bt418.2.2.2.2.2.2.2.2.2.1⟩ : S42)⟩ : S44)⟩ : S46)] : List (S46)))).bind fun t438 => (if t438 = true then (garnerlaw23_RaftMay.l1 k x0 x4 (wrap64 (x7 + 1)) x386000 x386001 x386002 x386003 x386004 x386005 x386006 x402000 x402001 x402002 x402003 x402004 x402005 x402006) else (some false))) else (some false)) else (some false)))) else ((garnerref23_May.f k x402000 x402001 x402002 x402003 x402004 x402005 x402006).bind fun t403 => (if t403 = true then (garnerlaw23_RaftMay.l0 k x0 (wrap64 (x4 + 1)) x402000 x402001 x402002 x402003 x402004 x402005 x402006) else (some false)))
end
def garnerlaw23_RaftMay.f (k : Nat) (l0 : List (S37)) : Option (Bool) := if (l0.length : Int) > 40 then ((garnerlaw23_awake.f k).bind fun t384 => (some t384)) else (garnerlaw23_RaftMay.l0 k l0 0 0 0 ([] : List (S46)) 0 0 0 0)
theorem garnerlaw23_RaftMay.mono_l : ∀ k, (∀ y0 y1 y2 y3 y4 y5 y6 y7 y8, LeO (garnerlaw23_RaftMay.l0 k y0 y1 y2 y3 y4 y5 y6 y7 y8) (garnerlaw23_RaftMay.l0 (k + 1) y0 y1 y2 y3 y4 y5 y6 y7 y8)) ∧ (∀ y0 y1 y2 y3 y4 y5 y6 y7 y8 y9 y10 y11 y12 y13 y14 y15 y16, LeO (garnerlaw23_RaftMay.l1 k y0 y1 y2 y3 y4 y5 y6 y7 y8 y9 y10 y11 y12 y13 y14 y15 y16) (garnerlaw23_RaftMay.l1 (k + 1) y0 y1 y2 y3 y4 y5 y6 y7 y8 y9 y10 y11 y12 y13 y14 y15 y16)) ∧ (∀ y0 y1 y2 y3 y4 y5 y6 y7 y8 y9 y10 y11 y12 y13 y14 y15 y16 y17, LeO (garnerlaw23_RaftMay.j2 k y0 y1 y2 y3 y4 y5 y6 y7 y8 y9 y10 y11 y12 y13 y14 y15 y16 y17) (garnerlaw23_RaftMay.j2 (k + 1) y0 y1 y2 y3 y4 y5 y6 y7 y8 y9 y10 y11 y12 y13 y14 y15 y16 y17))
 | 0 => ⟨fun _ _ _ _ _ _ _ _ _ r h => by simp [garnerlaw23_RaftMay.l0] at h, fun _ _ _ _ _ _ _ _ _ _ _ _ _ _ _ _ _ r h => by simp [garnerlaw23_RaftMay.l1] at h, fun _ _ _ _ _ _ _ _ _ _ _ _ _ _ _ _ _ _ r h => by simp [garnerlaw23_RaftMay.j2] at h⟩
 | k + 1 => by
  obtain ⟨ih0, ih1, ih2⟩ := garnerlaw23_RaftMay.mono_l k
  refine ⟨?_, ?_, ?_⟩
  ·intro y0 y1 y2 y3 y4 y5 y6 y7 y8
   unfold garnerlaw23_RaftMay.l0
   repeat' first
   | (with_reducible exact ih0 _ _ _ _ _ _ _ _ _)
   | (with_reducible exact ih1 _ _ _ _ _ _ _ _ _ _ _ _ _ _ _ _ _)
   | (with_reducible exact ih2 _ _ _ _ _ _ _ _ _ _ _ _ _ _ _ _ _ _)
   | (with_reducible exact garnerlaw06_Light.mono _ _)
   | (with_reducible exact garnerlaw23_act.mono _ _ _ _ _ _ _ _ _ _ _ _ _ _ _)
   | (with_reducible exact garnerlaw23_awake.mono _)
   | (with_reducible exact garnerref06_Same.mono _ _ _)
   | (with_reducible exact garnerref23_May.mono _ _ _ _ _ _ _ _)
   | (with_reducible exact raft_Get.mono _ _ _ _ _ _ _ _ _)
   | (with_reducible exact LeO.refl _)
   | (with_reducible exact LeO.none _)
   | (with_reducible refine LeO.ite ?_ ?_)
   | (with_reducible refine LeO.bind ?_ (fun _ => ?_))
   | exact ih0 _ _ _ _ _ _ _ _ _
   | exact ih1 _ _ _ _ _ _ _ _ _ _ _ _ _ _ _ _ _
   | exact ih2 _ _ _ _ _ _ _ _ _ _ _ _ _ _ _ _ _ _
   | exact garnerlaw06_Light.mono _ _
   | exact garnerlaw23_act.mono _ _ _ _ _ _ _ _ _ _ _ _ _ _ _
   | exact garnerlaw23_awake.mono _
   | exact garnerref06_Same.mono _ _ _
   | exact garnerref23_May.mono _ _ _ _ _ _ _ _
   | exact raft_Get.mono _ _ _ _ _ _ _ _ _
   | exact LeO.none _
   | refine LeO.ite ?_ ?_
   | refine LeO.bind ?_ (fun _ => ?_)
  ·intro y0 y1 y2 y3 y4 y5 y6 y7 y8 y9 y10 y11 y12 y13 y14 y15 y16
   unfold garnerlaw23_RaftMay.l1
   repeat' first
   | (with_reducible exact ih0 _ _ _ _ _ _ _ _ _)
   | (with_reducible exact ih1 _ _ _ _ _ _ _ _ _ _ _ _ _ _ _ _ _)
   | (with_reducible exact ih2 _ _ _ _ _ _ _ _ _ _ _ _ _ _ _ _ _ _)
   | (with_reducible exact garnerlaw06_Light.mono _ _)
   | (with_reducible exact garnerlaw23_act.mono _ _ _ _ _ _ _ _ _ _ _ _ _ _ _)
   | (with_reducible exact garnerlaw23_awake.mono _)
   | (with_reducible exact garnerref06_Same.mono _ _ _)
   | (with_reducible exact garnerref23_May.mono _ _ _ _ _ _ _ _)
   | (with_reducible exact raft_Get.mono _ _ _ _ _ _ _ _ _)
   | (with_reducible exact LeO.refl _)
   | (with_reducible exact LeO.none _)
   | (with_reducible refine LeO.ite ?_ ?_)
   | (with_reducible refine LeO.bind ?_ (fun _ => ?_))
   | exact ih0 _ _ _ _ _ _ _ _ _
   | exact ih1 _ _ _ _ _ _ _ _ _ _ _ _ _ _ _ _ _
   | exact ih2 _ _ _ _ _ _ _ _ _ _ _ _ _ _ _ _ _ _
   | exact garnerlaw06_Light.mono _ _
   | exact garnerlaw23_act.mono _ _ _ _ _ _ _ _ _ _ _ _ _ _ _
   | exact garnerlaw23_awake.mono _
   | exact garnerref06_Same.mono _ _ _
   | exact garnerref23_May.mono _ _ _ _ _ _ _ _
   | exact raft_Get.mono _ _ _ _ _ _ _ _ _
   | exact LeO.none _
   | refine LeO.ite ?_ ?_
   | refine LeO.bind ?_ (fun _ => ?_)
  ·intro y0 y1 y2 y3 y4 y5 y6 y7 y8 y9 y10 y11 y12 y13 y14 y15 y16 y17
   unfold garnerlaw23_RaftMay.j2
   repeat' first
   | (with_reducible exact ih0 _ _ _ _ _ _ _ _ _)
   | (with_reducible exact ih1 _ _ _ _ _ _ _ _ _ _ _ _ _ _ _ _ _)
   | (with_reducible exact ih2 _ _ _ _ _ _ _ _ _ _ _ _ _ _ _ _ _ _)
   | (with_reducible exact garnerlaw06_Light.mono _ _)
   | (with_reducible exact garnerlaw23_act.mono _ _ _ _ _ _ _ _ _ _ _ _ _ _ _)
   | (with_reducible exact garnerlaw23_awake.mono _)
   | (with_reducible exact garnerref06_Same.mono _ _ _)
   | (with_reducible exact garnerref23_May.mono _ _ _ _ _ _ _ _)
   | (with_reducible exact raft_Get.mono _ _ _ _ _ _ _ _ _)
   | (with_reducible exact LeO.refl _)
   | (with_reducible exact LeO.none _)
   | (with_reducible refine LeO.ite ?_ ?_)
   | (with_reducible refine LeO.bind ?_ (fun _ => ?_))
   | exact ih0 _ _ _ _ _ _ _ _ _
   | exact ih1 _ _ _ _ _ _ _ _ _ _ _ _ _ _ _ _ _
   | exact ih2 _ _ _ _ _ _ _ _ _ _ _ _ _ _ _ _ _ _
   | exact garnerlaw06_Light.mono _ _
   | exact garnerlaw23_act.mono _ _ _ _ _ _ _ _ _ _ _ _ _ _ _
   | exact garnerlaw23_awake.mono _
   | exact garnerref06_Same.mono _ _ _
   | exact garnerref23_May.mono _ _ _ _ _ _ _ _
   | exact raft_Get.mono _ _ _ _ _ _ _ _ _
   | exact LeO.none _
   | refine LeO.ite ?_ ?_
   | refine LeO.bind ?_ (fun _ => ?_)
theorem garnerlaw23_RaftMay.mono : ∀ a0 k, LeO (garnerlaw23_RaftMay.f k a0) (garnerlaw23_RaftMay.f (k + 1) a0) := by
 intro a0 k
 obtain ⟨ih0, ih1, ih2⟩ := garnerlaw23_RaftMay.mono_l k
 unfold garnerlaw23_RaftMay.f
 repeat' first
   | (with_reducible exact ih0 _ _ _ _ _ _ _ _ _)
   | (with_reducible exact ih1 _ _ _ _ _ _ _ _ _ _ _ _ _ _ _ _ _)
   | (with_reducible exact ih2 _ _ _ _ _ _ _ _ _ _ _ _ _ _ _ _ _ _)
   | (with_reducible exact garnerlaw06_Light.mono _ _)
   | (with_reducible exact garnerlaw23_act.mono _ _ _ _ _ _ _ _ _ _ _ _ _ _ _)
   | (with_reducible exact garnerlaw23_awake.mono _)
   | (with_reducible exact garnerref06_Same.mono _ _ _)
   | (with_reducible exact garnerref23_May.mono _ _ _ _ _ _ _ _)
   | (with_reducible exact raft_Get.mono _ _ _ _ _ _ _ _ _)
   | (with_reducible exact LeO.refl _)
   | (with_reducible exact LeO.none _)
   | (with_reducible refine LeO.ite ?_ ?_)
   | (with_reducible refine LeO.bind ?_ (fun _ => ?_))
   | exact ih0 _ _ _ _ _ _ _ _ _
   | exact ih1 _ _ _ _ _ _ _ _ _ _ _ _ _ _ _ _ _
   | exact ih2 _ _ _ _ _ _ _ _ _ _ _ _ _ _ _ _ _ _
   | exact garnerlaw06_Light.mono _ _
   | exact garnerlaw23_act.mono _ _ _ _ _ _ _ _ _ _ _ _ _ _ _
   | exact garnerlaw23_awake.mono _
   | exact garnerref06_Same.mono _ _ _
   | exact garnerref23_May.mono _ _ _ _ _ _ _ _
   | exact raft_Get.mono _ _ _ _ _ _ _ _ _
   | exact LeO.none _
   | refine LeO.ite ?_ ?_
   | refine LeO.bind ?_ (fun _ => ?_)
def garnerlaw23_RaftMay.T9 : Bool × List (List Nat × List Nat) := (true, [([], []), ([], []), ([], []), ([1, 2], [1, 2]), ([3], [3]), ([0, 4], [0, 4]), ([5], [5]), ([6], [6]), ([6], [6]), ([], []), ([9, 7, 5, 0, 1, 2, 3, 4, 5, 6, 7, 9], [7, 9]), ([8, 10, 0, 1, 2, 3, 4, 5, 6, 7, 8, 9, 10], [8])])
def garnerlaw23_RaftMay.B9 : List Nat := [0, 0, 0, 6, 14, 31, 63, 127, 127, 0, 767, 2047]
theorem garnerlaw23_RaftMay.tab9 : rtab .any (opsOf Try.f4 9) = garnerlaw23_RaftMay.T9 := by kernel_rfl
theorem garnerlaw23_RaftMay.bits9 : waitsOk garnerlaw23_RaftMay.T9.2 garnerlaw23_RaftMay.B9 = true := by kernel_rfl
set_option maxHeartbeats 8000000 in
set_option maxRecDepth 100000 in
theorem garnerlaw23_RaftMay.calls (k : Nat) (A0 : Option Addr) (c0 : Nat) (l0 : List (S37)) (r : Bool) (w : World) (hr0 : Kd.C k37 w A0 l0.length l0) (hc0 : l0.length ≤ c0) (h : garnerlaw23_RaftMay.f k l0 = some r) :
  Calls Try.prog 4 #[.slice A0 l0.length c0] w fun e w' => e = .returned (.bool r) ∧ Below w.heap.size w w' := by
 have hu26 := Try.underlying26
 have hu37 := Try.underlying37
 have hu46 := Try.underlying46
 have HR0 := Am hr0
 have HC0 := Am hc0
 clear hr0 hc0
 have HB := Am (Below.refl w.heap.size w)
 have H : (if (l0.length : Int) > 40 then ((garnerlaw23_awake.f k).bind fun t384 => (some t384)) else (garnerlaw23_RaftMay.l0 k l0 0 0 0 ([] : List (S46)) 0 0 0 0)) = some r := h
 clear h
 by_cases c2 : (l0.length : Int) > 40
 ·rw [if_pos c2] at H
  have c2b0 : decide (40 < (l0.length : Int)) = true := decide_eq_true c2
  have c2b1 : decide (40 < l0.length) = true := decide_eq_true (by omega)
  clear c2
  replace H := Option.bind_eq_some_iff.mp H
  obtain ⟨t384, A30, H⟩ := H
  replace H : (some t384) = some r := H
  have A3 := Am A30
  clear A30
  obtain rfl := Option.some.inj H
  go_enter Try.func4, Try.ntmps4
  go_wp2_with (first | ((with_reducible refine gate_callee (f := 8) rfl ?_); refine goesL_ (some 15) rfl rfl Try.func8 (by kernel_rfl) rfl #[] rfl pL ?_; (with_reducible refine (garnerlaw23_awake.calls k  t384 _ A3.out).mono ?_); rintro e w4 ⟨rfl, hb⟩; refine ⟨_, rfl, ?_⟩; replace HB := Am (below_step (pB HB.out) hb); (try clear hb); (try clear hb2); (try clear hk); (try clear hi)))
  go_ret
  exact ⟨pX, pB HB.out⟩
 rw [if_neg c2] at H
 have c2b0 : decide (40 < (l0.length : Int)) = false := decide_eq_false c2
 have c2b1 : decide (40 < l0.length) = false := decide_eq_false (by omega)
 clear c2
 have H' := Am H
 clear H
 go_enter Try.func4, Try.ntmps4
 go_wp2_with (first | ((with_reducible refine gate_dst (N := 3) rfl ?_); (try (refine gate_guard (by rfl) ?_; dsimp only)); refine box_event ?hg (N := 3) ?hd (cs := #[.int .i64 0, .int .i64 0, .slice none 0 0, .int .i64 0, .int .i64 0, .int .i64 0, .int .i64 0]) (t := 26) ?hr ?_; (case hd => rfl); (case hg => rfl); (case hr => first | (go_simp; done) | (go_simp; rfl)); intro Ae hg w5 hbox hb; have Ab := Am (hbox); have Ey := Am ((by rw [hg]; exact (below_size (pB HB.out)) : w.heap.size ≤ Ae)); replace HB := Am (below_step (pB HB.out) hb); have As := Ey; clear hb hbox hg; obtain ⟨Cz, C0, C1, C2, C3, C4, C5⟩ := bc7 Ab.out; obtain ⟨C6, C7, C8, C9, Da, Db, Dc⟩ := bf7 Ab.out))
 go_loopg [4] k (fun kq v4 w' => ∃ (Af : Int) (Aj : Int) (Ak : Int) (Ac : List (S46)) (Al : Int) (An : Int) (Ah : Int) (Ao : Int) (u386002 : Value), v4 = .int .i64 Af ∧ Aside0 (garnerlaw23_RaftMay.l0 kq l0 Af Aj Ak Ac Al An Ah Ao = some r) ∧ Aside0 (kq ≤ k) ∧ Aside0 (Kd.V k46 46 w' w.heap.size (fun k_ => k_ ≠ Ae) u386002 Ac) ∧ Aside0 (w'.heap[Ae]? = some (.cells #[.int .i64 Aj, .int .i64 Ak, u386002, .int .i64 Al, .int .i64 An, .int .i64 Ah, .int .i64 Ao] 26 (0, 0))) ∧ Aside0 (Below w.heap.size w w'))
 case atStart => exact ⟨(0), (0), (0), (([] : List (S46))), (0), (0), (0), (0), (.slice none 0 0), (by first | rfl | (simp; done) | (simp [*]; done)), H', ⟨Nat.le_refl _⟩, ⟨Kd.N_V (Kd.N_nil _ _ _ 0 _)⟩, ⟨kX0 Ab.out⟩, ⟨pE HB.out As.out⟩⟩
 case round =>
  clear H'
  try clear c2
  try clear c2b0
  try clear c2b1
  try clear p2
  try clear c4
  try clear Cz C0 C1 C2 C3 C4 C5
  try clear C6 C7 C8 C9 Da Db Dc
  obtain ⟨Af, Aj, Ak, Ac, Al, An, Ah, Ao, u386002, rfl, HA, HK1, Aa, Ab, HB⟩ := hrel
  cases gk with
  | zero => exact absurd HA.out (by simp [garnerlaw23_RaftMay.l0])
  | succ k1 =>
   have H := HA.out
   clear HA
   simp only [garnerlaw23_RaftMay.l0] at H
   by_cases c7 : Af < (l0.length : Int)
   rotate_left
   ·rw [if_neg c7] at H
    have c7b0 : decide (Af < (l0.length : Int)) = false := decide_eq_false c7
    clear c7
    replace H := Option.bind_eq_some_iff.mp H
    obtain ⟨t386, A1520, H⟩ := H
    replace H : (some t386) = some r := H
    have A152 := Am A1520
    clear A1520
    obtain rfl := Option.some.inj H
    go_wp2_with (first | ((with_reducible refine gate_callee (f := 8) rfl ?_); refine goesL_ (some 90) rfl rfl Try.func8 (by kernel_rfl) rfl #[] rfl pL ?_; (with_reducible refine (garnerlaw23_awake.calls k1  t386 _ A152.out).mono ?_); rintro e w153 ⟨rfl, hb⟩; refine ⟨_, rfl, ?_⟩; replace Aa := bVa Aa hb; replace Ab := kBa Ab hb; replace HB := Am (below_step (pE HB.out As.out) hb); (try clear hb); (try clear hb2); (try clear hk); (try clear hi)))
    go_ret
    exact ⟨pX, pE HB.out As.out⟩
   rw [if_pos c7] at H
   have c7b0 : decide (Af < (l0.length : Int)) = true := decide_eq_true c7
   clear c7
   by_cases c8 : 0 ≤ Af
   rotate_left
   ·rw [if_neg c8] at H
    exact absurd H (by simp)
   rw [if_pos c8] at H
   have c8b0 : decide (0 ≤ Af) = true := decide_eq_true c8
   clear c8
   replace H := Option.bind_eq_some_iff.mp H
   obtain ⟨t388, A90, H⟩ := H
   replace H : (if t388 = true then ((garnerlaw23_act.f k1 Aj Ak Ac Al An Ah Ao ((rd_T37 l0 Af).f0) ((rd_T37 l0 Af).f1) ((rd_T37 l0 Af).f2.f0) ((rd_T37 l0 Af).f2.f1) ((rd_T37 l0 Af).f2.f2) ((rd_T37 l0 Af).f3) ((rd_T37 l0 Af).f4)).bind fun bt391 => (if bt391.2.2.2.2.2.2.2 = 0 then (garnerlaw23_RaftMay.l1 k1 l0 Af (wrap64 (bt391.1 + 1)) Aj Ak Ac Al An Ah Ao bt391.1 bt391.2.1 bt391.2.2.1 bt391.2.2.2.1 bt391.2.2.2.2.1 bt391.2.2.2.2.2.1 bt391.2.2.2.2.2.2.1) else (garnerlaw23_RaftMay.l0 k1 l0 (wrap64 (Af + 1)) Aj Ak Ac Al An Ah Ao))) else ((garnerlaw23_awake.f k1).bind fun t389 => (some t389))) = some r := H
   have A9 := Am A90
   clear A90
   by_cases c10 : t388 = true
   rotate_left
   ·replace c10 := Bool.eq_false_iff.mpr c10
    subst c10
    have H1 : ((garnerlaw23_awake.f k1).bind fun t389 => (some t389)) = some r := by rw [if_neg (show ¬ (false = true) by decide)] at H; exact H
    clear H
    have H := H1
    clear H1
    replace H := Option.bind_eq_some_iff.mp H
    obtain ⟨t389, A1500, H⟩ := H
    replace H : (some t389) = some r := H
    have A150 := Am A1500
    clear A1500
    obtain rfl := Option.some.inj H
    have p387 : 0 ≤ (Af : Int) := of_decide_eq_true pS
    have q387 : Af < (l0.length : Int) := of_decide_eq_true pS
    obtain ⟨Aw, Ct, c387_1, e387, Ck, Cl, Cm, Cn, Co, Cp, Cq, Bu, Bv⟩ := at_T37u HR0.out Af p387 q387 HB.out
    cases e387
    have Cb := Am Bv
    have Cc := Am Bu
    clear Bv Bu
    replace p387 := eq_true p387
    replace q387 := eq_true q387
    go_wp2_with (first | ((with_reducible refine gate_callee (f := 7) rfl ?_); refine goesL_ (some 28) rfl rfl Try.func7 (by kernel_rfl) rfl #[.slice Ct ((rd_T37 l0 Af).f1).length c387_1] rfl pL ?_; (with_reducible refine (garnerlaw06_Light.calls k1 _ _ ((rd_T37 l0 Af).f1) false _ ?Az ?A1 A9.out).mono ?_); (case Az => exact pC (Kd.C_below Cb.out HB.out)); (case A1 => exact Cc.out); rintro e w' ⟨rfl, ⟨nd, rfl⟩⟩; refine ⟨_, rfl, ?_⟩) | ((with_reducible refine gate_callee (f := 8) rfl ?_); refine goesL_ (some 30) rfl rfl Try.func8 (by kernel_rfl) rfl #[] rfl pL ?_; (with_reducible refine (garnerlaw23_awake.calls k1  t389 _ A150.out).mono ?_); rintro e w151 ⟨rfl, hb⟩; refine ⟨_, rfl, ?_⟩; replace Aa := bVa Aa hb; replace Ab := kBa Ab hb; replace HB := Am (below_step (pE HB.out As.out) hb); (try clear hb); (try clear hb2); (try clear hk); (try clear hi)))
    go_ret
    exact ⟨pX, pE HB.out As.out⟩
   subst c10
   have H1 : ((garnerlaw23_act.f k1 Aj Ak Ac Al An Ah Ao ((rd_T37 l0 Af).f0) ((rd_T37 l0 Af).f1) ((rd_T37 l0 Af).f2.f0) ((rd_T37 l0 Af).f2.f1) ((rd_T37 l0 Af).f2.f2) ((rd_T37 l0 Af).f3) ((rd_T37 l0 Af).f4)).bind fun bt391 => (if bt391.2.2.2.2.2.2.2 = 0 then (garnerlaw23_RaftMay.l1 k1 l0 Af (wrap64 (bt391.1 + 1)) Aj Ak Ac Al An Ah Ao bt391.1 bt391.2.1 bt391.2.2.1 bt391.2.2.2.1 bt391.2.2.2.2.1 bt391.2.2.2.2.2.1 bt391.2.2.2.2.2.2.1) else (garnerlaw23_RaftMay.l0 k1 l0 (wrap64 (Af + 1)) Aj Ak Ac Al An Ah Ao))) = some r := by rw [if_pos rfl] at H; exact H
   clear H
   have H := H1
   clear H1
   replace H := Option.bind_eq_some_iff.mp H
   obtain ⟨⟨t391, t392, t393, t396, t397, t398, t399, t400⟩, A110, H⟩ := H
   replace H : (if t400 = 0 then (garnerlaw23_RaftMay.l1 k1 l0 Af (wrap64 (t391 + 1)) Aj Ak Ac Al An Ah Ao t391 t392 t393 t396 t397 t398 t399) else (garnerlaw23_RaftMay.l0 k1 l0 (wrap64 (Af + 1)) Aj Ak Ac Al An Ah Ao)) = some r := H
   have A11 := Am A110
   clear A110
   by_cases c12 : t400 = 0
   rotate_left
   ·rw [if_neg c12] at H
    have c12b0 : (t400 == 0) = false := beq_eq_false_iff_ne.mpr c12
    have c12b1 : (t400 != 0) = true := bne_iff_ne.mpr c12
    have H' := Am H
    clear H
    have p387 : 0 ≤ (Af : Int) := of_decide_eq_true pS
    have q387 : Af < (l0.length : Int) := of_decide_eq_true pS
    obtain ⟨Aw, Ct, c387_1, e387, Ck, Cl, Cm, Cn, Co, Cp, Cq, Bu, Bv⟩ := at_T37u HR0.out Af p387 q387 HB.out
    cases e387
    have Cb := Am Bv
    have Cc := Am Bu
    clear Bv Bu
    replace p387 := eq_true p387
    replace q387 := eq_true q387
    try go_wp2_with (first | ((with_reducible refine gate_callee (f := 7) rfl ?_); refine goesL_ (some 28) rfl rfl Try.func7 (by kernel_rfl) rfl #[.slice Ct ((rd_T37 l0 Af).f1).length c387_1] rfl pL ?_; (with_reducible refine (garnerlaw06_Light.calls k1 _ _ ((rd_T37 l0 Af).f1) true _ ?Az ?A1 A9.out).mono ?_); (case Az => exact pC (Kd.C_below Cb.out HB.out)); (case A1 => exact Cc.out); rintro e w' ⟨rfl, ⟨nd, rfl⟩⟩; refine ⟨_, rfl, ?_⟩; (try (rw [drewN_self wr]; generalize hq_ : World.drewN wr _ = wr; replace Aa : Aside0 (Kd.V k46 46 wr w.heap.size (fun k_ => k_ ≠ Ae) u386002 Ac) := ⟨by rw [← hq_]; exact (pV Aa.out)⟩; replace Ab : Aside0 (wr.heap[Ae]? = some (.cells #[.int .i64 Aj, .int .i64 Ak, u386002, .int .i64 Al, .int .i64 An, .int .i64 Ah, .int .i64 Ao] 26 (0, 0))) := ⟨by rw [← hq_]; exact (pK Ab.out)⟩; replace HB : Aside0 (Below w.heap.size w wr) := ⟨by rw [← hq_]; exact (pE HB.out As.out)⟩; clear hq_)); obtain ⟨B8, B9, E8⟩ := Kd.V_slice Aa.out; subst E8))
    replace Aa := dVa Aa
    replace Ab := kDa Ab
    replace HB := bDa HB
    have p390 : 0 ≤ (Af : Int) := of_decide_eq_true pS
    have q390 : Af < (l0.length : Int) := of_decide_eq_true pS
    obtain ⟨Dt, Bt, c390_1, e390, Bz, B0, B1, B2, B3, B4, B5, Cd, Ce, Ba, Bb, Bc, Bd, Be, Bf, Bg⟩ := at_T37w HR0.out Af p390 q390 HB.out
    obtain rfl : Aw = Dt := (by injection e390)
    have Bs := Am Ce
    have Cf := Am Cd
    clear Ce Cd
    replace p390 := eq_true p390
    replace q390 := eq_true q390
    refine start_ (n := 12) (S := fun w' => cG w' Ae 0 (.int .i64 Aj) ∧ cG w' Ae 1 (.int .i64 Ak) ∧ cG w' Ae 2 (.slice B8 Ac.length B9) ∧ cG w' Ae 3 (.int .i64 Al) ∧ cG w' Ae 4 (.int .i64 An) ∧ cG w' Ae 5 (.int .i64 Ah) ∧ cG w' Ae 6 (.int .i64 Ao) ∧ w'.cell? (Aw.add ((Af).toNat * 7)) = some (.int .i64 ((rd_T37 l0 Af).f0)) ∧ cA w' (Aw.add ((Af).toNat * 7)) 1 (.slice Bt ((rd_T37 l0 Af).f1).length c390_1) ∧ cA w' (Aw.add ((Af).toNat * 7)) 2 (.int .i64 ((rd_T37 l0 Af).f2.f0)) ∧ cA w' (Aw.add ((Af).toNat * 7)) 3 (.int .i64 ((rd_T37 l0 Af).f2.f1)) ∧ cA w' (Aw.add ((Af).toNat * 7)) 4 (.int .i64 ((rd_T37 l0 Af).f2.f2)) ∧ cA w' (Aw.add ((Af).toNat * 7)) 5 (.int .i64 ((rd_T37 l0 Af).f3)) ∧ cA w' (Aw.add ((Af).toNat * 7)) 6 (.int .i64 ((rd_T37 l0 Af).f4))) (ds := []) #[false, false, false, false, false, false, false, false, false, false, false, false] (by kernel_rfl) rfl rfl ⟨(blk_cell Ab.out 0).trans rfl, (blk_cell Ab.out 1).trans rfl, (blk_cell Ab.out 2).trans rfl, (blk_cell Ab.out 3).trans rfl, (blk_cell Ab.out 4).trans rfl, (blk_cell Ab.out 5).trans rfl, (blk_cell Ab.out 6).trans rfl, (cT HB.out Ba), (cT HB.out Bb), (cT HB.out Bc), (cT HB.out Bd), (cT HB.out Be), (cT HB.out Bf), (cT HB.out Bg)⟩ (fun hHeld => ?_); refine with_tabW garnerlaw23_RaftMay.tab9 garnerlaw23_RaftMay.bits9 (fun HT_ HW_ => ?_)
    (first | generalize wr.drew = w138 at Aa Ab HB Bs Bz B0 B1 B2 B3 B4 B5 hHeld ⊢ | generalize wr.drew = w138 at Ab HB Bs Bz B0 B1 B2 B3 B4 B5 hHeld ⊢)
    refine pui 1 33 12 2 HT_ ?_
    refine pui 2 34 12 6 HT_ ?_
    refine pui 3 35 12 14 HT_ ?_
    refine tki 0 32 12 15 HT_ HW_ hHeld ?_
    refine tki 4 36 12 31 HT_ HW_ hHeld ?_
    refine join_ (σ := Value × Nat) 2 #[true, true, true, true, true, true, true, true, true, true, false, false] (fun s_ => [(37, .tuple #[.agg #[.int .i64 t391, .int .i64 t392, s_.1, .int .i64 t396, .int .i64 t397, .int .i64 t398, .int .i64 t399], .int .i64 t400]), (5, .pointer (some ⟨s_.2, 0, none⟩)), (31, .tuple #[.agg #[.int .i64 t391, .int .i64 t392, s_.1, .int .i64 t396, .int .i64 t397, .int .i64 t398, .int .i64 t399], .int .i64 t400]), (38, .agg #[.int .i64 t391, .int .i64 t392, s_.1, .int .i64 t396, .int .i64 t397, .int .i64 t398, .int .i64 t399]), (39, .int .i64 t400)]) (fun s_ w' => (cG w' Ae 0 (.int .i64 Aj) ∧ cG w' Ae 1 (.int .i64 Ak) ∧ cG w' Ae 2 (.slice B8 Ac.length B9) ∧ cG w' Ae 3 (.int .i64 Al) ∧ cG w' Ae 4 (.int .i64 An) ∧ cG w' Ae 5 (.int .i64 Ah) ∧ cG w' Ae 6 (.int .i64 Ao) ∧ w'.cell? (Aw.add ((Af).toNat * 7)) = some (.int .i64 ((rd_T37 l0 Af).f0)) ∧ cA w' (Aw.add ((Af).toNat * 7)) 1 (.slice Bt ((rd_T37 l0 Af).f1).length c390_1) ∧ cA w' (Aw.add ((Af).toNat * 7)) 2 (.int .i64 ((rd_T37 l0 Af).f2.f0)) ∧ cA w' (Aw.add ((Af).toNat * 7)) 3 (.int .i64 ((rd_T37 l0 Af).f2.f1)) ∧ cA w' (Aw.add ((Af).toNat * 7)) 4 (.int .i64 ((rd_T37 l0 Af).f2.f2)) ∧ cA w' (Aw.add ((Af).toNat * 7)) 5 (.int .i64 ((rd_T37 l0 Af).f3)) ∧ cA w' (Aw.add ((Af).toNat * 7)) 6 (.int .i64 ((rd_T37 l0 Af).f4))) ∧ (Kd.V k46 46 w' w.heap.size (fun k_ => k_ ≠ Ae ∧ k_ ≠ s_.2) s_.1 t393) ∧ (Kd.V k46 46 w' w.heap.size (fun k_ => k_ ≠ Ae ∧ k_ ≠ s_.2) (.slice B8 Ac.length B9) Ac) ∧ (w'.heap[Ae]? = some (.cells #[.int .i64 Aj, .int .i64 Ak, .slice B8 Ac.length B9, .int .i64 Al, .int .i64 An, .int .i64 Ah, .int .i64 Ao] 26 (0, 0))) ∧ (w'.heap[s_.2]? = some (.cells #[.int .i64 0, .int .i64 0, .slice none 0 0, .int .i64 0, .int .i64 0, .int .i64 0, .int .i64 0] 26 (0, 0))) ∧ (w.heap.size ≤ s_.2) ∧ (w.heap.size ≤ s_.2) ∧ (Ae ≠ s_.2) ∧ (s_.2 ≠ Ae) ∧ (Below w.heap.size w w')) ?_ ?_
    rotate_left
    ·intro hCont
     refine two_ (i := 5) (j := 9) (Ni := some 37) (Nj := some 5) (bw 12 63) #[true, true, true, true, true, false, false, false, false, true, false, false] rfl rfl rfl rfl (two_of HT_.out (by kernel_rfl)) (by decide) (by decide) (fun K hK => ?_) (fun K hK => ?_)
     ·skip
      refine goes_ Try.func11 (by kernel_rfl) rfl #[.agg #[.int .i64 Aj, .int .i64 Ak, .slice B8 Ac.length B9, .int .i64 Al, .int .i64 An, .int .i64 Ah, .int .i64 Ao], .agg #[.int .i64 ((rd_T37 l0 Af).f0), .slice Bt ((rd_T37 l0 Af).f1).length c390_1, .int .i64 ((rd_T37 l0 Af).f2.f0), .int .i64 ((rd_T37 l0 Af).f2.f1), .int .i64 ((rd_T37 l0 Af).f2.f2), .int .i64 ((rd_T37 l0 Af).f3), .int .i64 ((rd_T37 l0 Af).f4)]] (by rfl) rfl rfl pL ?_
      with_reducible refine (garnerlaw23_act.calls k1 Aj Ak (fun k_ => k_ ≠ Ae) _ _ Ac Al An Ah Ao ((rd_T37 l0 Af).f0) _ _ ((rd_T37 l0 Af).f1) ((rd_T37 l0 Af).f2.f0) ((rd_T37 l0 Af).f2.f1) ((rd_T37 l0 Af).f2.f2) ((rd_T37 l0 Af).f3) ((rd_T37 l0 Af).f4) t391 t392 t393 t396 t397 t398 t399 t400 _ ?Az ?A1 ?B6 A11.out).mono ?_
      (case Az => exact Aa.out)
      (case A1 => exact pC (Kd.C_below Bs.out HB.out))
      (case B6 => exact Cf.out)
      rintro e w139 ⟨v394, rfl, ho0, hb⟩
      refine ⟨_, rfl, ?_⟩
      replace Aa := bVa Aa hb
      have Br := Am (Kd.V_lower (Kd.V_mono (ok' := fun k_ => k_ ≠ Ae) ho0 (fun k_ hk_ => Or.elim hk_ (fun hs_ => hs_) (fun hn_ => (kF Ab.out k_ hn_)))) (below_size (pE HB.out As.out)))
      replace Ab := kBa Ab hb
      replace HB := Am (below_step (pE HB.out As.out) hb)
      (try clear hb)
      (try clear hb2)
      (try clear hk)
      (try clear hi)
      (try clear ho0)
      refine hK.out _ _ ⟨(blk_cell Ab.out 0).trans rfl, (blk_cell Ab.out 1).trans rfl, (blk_cell Ab.out 2).trans rfl, (blk_cell Ab.out 3).trans rfl, (blk_cell Ab.out 4).trans rfl, (blk_cell Ab.out 5).trans rfl, (blk_cell Ab.out 6).trans rfl, (cT HB.out Ba), (cT HB.out Bb), (cT HB.out Bc), (cT HB.out Bd), (cT HB.out Be), (cT HB.out Bf), (cT HB.out Bg)⟩ (fun hHeld => ?_)
      clear hK K
      refine norm_ (a' := ?_) ?_ ?_
      rotate_left
      ·show Act.put _ (some 37) _ = _
       simp only [Act.put, List.setIfInBounds_toArray, List.set_cons_zero, List.set_cons_succ, i64_w, i32_w]
       rfl
      refine pui 6 31 12 127 HT_ ?_
      refine pui 7 38 12 255 HT_ ?_
      refine pui 8 39 12 511 HT_ ?_
      refine onei 9 5 12 1023 HT_ (fun K hK => ?_)
      refine box_step ?hg (N := 5) ?hd (cs := #[.int .i64 0, .int .i64 0, .slice none 0 0, .int .i64 0, .int .i64 0, .int .i64 0, .int .i64 0]) (t := 26) ?hr ?_; (case hd => rfl); (case hg => rfl); (case hr => first | (go_simp; done) | (go_simp; rfl))
      intro Ai hg w140 hbox hb
      replace Aa := Am (Kd.V_below (Kd.V_elderB (pV Aa.out) Ai (Nat.le_of_eq hg.symm)) hb)
      replace Br := Am (Kd.V_below (Kd.V_elderB (pV Br.out) Ai (Nat.le_of_eq hg.symm)) hb)
      have Ag := Am (hbox)
      have A7 := Am ((by rw [hg]; exact (below_size (pE HB.out As.out)) : w.heap.size ≤ Ai))
      have Av := Am ((by rw [hg]; exact (below_size (pE HB.out As.out)) : w.heap.size ≤ Ai))
      replace HB := Am (below_step (pE HB.out As.out) hb)
      have Ap := Am ((by rw [hg]; exact Nat.ne_of_lt (kL Ab.out) : Ae ≠ Ai))
      have At := Am ((by rw [hg]; exact Nat.ne_of_gt (kL Ab.out) : Ai ≠ Ae))
      replace Ab := kBa Ab hb
      clear hb hbox hg
      refine hK.out _ _ ⟨(blk_cell Ab.out 0).trans rfl, (blk_cell Ab.out 1).trans rfl, (blk_cell Ab.out 2).trans rfl, (blk_cell Ab.out 3).trans rfl, (blk_cell Ab.out 4).trans rfl, (blk_cell Ab.out 5).trans rfl, (blk_cell Ab.out 6).trans rfl, (cT HB.out Ba), (cT HB.out Bb), (cT HB.out Bc), (cT HB.out Bd), (cT HB.out Be), (cT HB.out Bf), (cT HB.out Bg)⟩ (fun hHeld => ?_)
      clear hK K
      refine norm_ (a' := ?_) ?_ ?_
      rotate_left
      ·show Act.put _ (some 5) _ = _
       simp only [Act.put, List.setIfInBounds_toArray, List.set_cons_zero, List.set_cons_succ, i64_w, i32_w]
       rfl
      exact norm_ (by simp only [putAll, Act.put, List.setIfInBounds_toArray, List.set_cons_zero, List.set_cons_succ]) (hCont (v394, Ai) _ ⟨hHeld, (pV Br.out), (pV Aa.out), (pK Ab.out), (pK Ag.out), A7.out, Av.out, Ap.out, At.out, (pE2 HB.out As.out Av.out)⟩)
     skip
     refine box_step ?hg (N := 5) ?hd (cs := #[.int .i64 0, .int .i64 0, .slice none 0 0, .int .i64 0, .int .i64 0, .int .i64 0, .int .i64 0]) (t := 26) ?hr ?_; (case hd => rfl); (case hg => rfl); (case hr => first | (go_simp; done) | (go_simp; rfl))
     intro Ai hg w139 hbox hb
     replace Aa := Am (Kd.V_below (Kd.V_elderB (pV Aa.out) Ai (Nat.le_of_eq hg.symm)) hb)
     have Ag := Am (hbox)
     have A7 := Am ((by rw [hg]; exact (below_size (pE HB.out As.out)) : w.heap.size ≤ Ai))
     have Av := Am ((by rw [hg]; exact (below_size (pE HB.out As.out)) : w.heap.size ≤ Ai))
     replace HB := Am (below_step (pE HB.out As.out) hb)
     have Ap := Am ((by rw [hg]; exact Nat.ne_of_lt (kL Ab.out) : Ae ≠ Ai))
     have At := Am ((by rw [hg]; exact Nat.ne_of_gt (kL Ab.out) : Ai ≠ Ae))
     replace Ab := kBa Ab hb
     clear hb hbox hg
     refine hK.out _ _ ⟨(blk_cell Ab.out 0).trans rfl, (blk_cell Ab.out 1).trans rfl, (blk_cell Ab.out 2).trans rfl, (blk_cell Ab.out 3).trans rfl, (blk_cell Ab.out 4).trans rfl, (blk_cell Ab.out 5).trans rfl, (blk_cell Ab.out 6).trans rfl, (cT HB.out Ba), (cT HB.out Bb), (cT HB.out Bc), (cT HB.out Bd), (cT HB.out Be), (cT HB.out Bf), (cT HB.out Bg)⟩ (fun hHeld => ?_)
     clear hK K
     refine norm_ (a' := ?_) ?_ ?_
     rotate_left
     ·show Act.put _ (some 5) _ = _
      simp only [Act.put, List.setIfInBounds_toArray, List.set_cons_zero, List.set_cons_succ, i64_w, i32_w]
      rfl
     refine onei 5 37 12 575 HT_ (fun K hK => ?_)
     refine goes_ Try.func11 (by kernel_rfl) rfl #[.agg #[.int .i64 Aj, .int .i64 Ak, .slice B8 Ac.length B9, .int .i64 Al, .int .i64 An, .int .i64 Ah, .int .i64 Ao], .agg #[.int .i64 ((rd_T37 l0 Af).f0), .slice Bt ((rd_T37 l0 Af).f1).length c390_1, .int .i64 ((rd_T37 l0 Af).f2.f0), .int .i64 ((rd_T37 l0 Af).f2.f1), .int .i64 ((rd_T37 l0 Af).f2.f2), .int .i64 ((rd_T37 l0 Af).f3), .int .i64 ((rd_T37 l0 Af).f4)]] (by rfl) rfl rfl pL ?_
     with_reducible refine (garnerlaw23_act.calls k1 Aj Ak (fun k_ => (k_ ≠ Ae ∧ k_ ≠ Ai)) _ _ Ac Al An Ah Ao ((rd_T37 l0 Af).f0) _ _ ((rd_T37 l0 Af).f1) ((rd_T37 l0 Af).f2.f0) ((rd_T37 l0 Af).f2.f1) ((rd_T37 l0 Af).f2.f2) ((rd_T37 l0 Af).f3) ((rd_T37 l0 Af).f4) t391 t392 t393 t396 t397 t398 t399 t400 _ ?Az ?A1 ?B6 A11.out).mono ?_
     (case Az => exact Aa.out)
     (case A1 => exact pC (Kd.C_below Bs.out HB.out))
     (case B6 => exact Cf.out)
     rintro e w140 ⟨v394, rfl, ho0, hb⟩
     refine ⟨_, rfl, ?_⟩
     replace Aa := bVa Aa hb
     have Br := Am (Kd.V_lower (Kd.V_mono (ok' := fun k_ => k_ ≠ Ae ∧ k_ ≠ Ai) ho0 (fun k_ hk_ => ⟨Or.elim hk_ (fun hs_ => hs_.1) (fun hn_ => (kF Ab.out k_ hn_)), Or.elim hk_ (fun hs_ => hs_.2) (fun hn_ => (kF Ag.out k_ hn_))⟩)) (below_size (pE2 HB.out As.out Av.out)))
     replace Ab := kBa Ab hb
     replace Ag := kBa Ag hb
     replace HB := Am (below_step (pE2 HB.out As.out Av.out) hb)
     (try clear hb)
     (try clear hb2)
     (try clear hk)
     (try clear hi)
     (try clear ho0)
     refine hK.out _ _ ⟨(blk_cell Ab.out 0).trans rfl, (blk_cell Ab.out 1).trans rfl, (blk_cell Ab.out 2).trans rfl, (blk_cell Ab.out 3).trans rfl, (blk_cell Ab.out 4).trans rfl, (blk_cell Ab.out 5).trans rfl, (blk_cell Ab.out 6).trans rfl, (cT HB.out Ba), (cT HB.out Bb), (cT HB.out Bc), (cT HB.out Bd), (cT HB.out Be), (cT HB.out Bf), (cT HB.out Bg)⟩ (fun hHeld => ?_)
     clear hK K
     refine norm_ (a' := ?_) ?_ ?_
     rotate_left
     ·show Act.put _ (some 37) _ = _
      simp only [Act.put, List.setIfInBounds_toArray, List.set_cons_zero, List.set_cons_succ, i64_w, i32_w]
      rfl
     refine pui 6 31 12 639 HT_ ?_
     refine pui 7 38 12 767 HT_ ?_
     refine pui 8 39 12 1023 HT_ ?_
     exact norm_ (by simp only [putAll, Act.put, List.setIfInBounds_toArray, List.set_cons_zero, List.set_cons_succ]) (hCont (v394, Ai) _ ⟨hHeld, (pV Br.out), (pV Aa.out), (pK Ab.out), (pK Ag.out), A7.out, Av.out, Ap.out, At.out, (pE2 HB.out As.out Av.out)⟩)
    rintro ⟨v394, Ai⟩ w141 ⟨hS_, h0_, h1_, h2_, h3_, h4_, h5_, h6_, h7_, h8_⟩
    have Br : Aside0 (Kd.V k46 46 w141 w.heap.size (fun k_ => k_ ≠ Ae ∧ k_ ≠ Ai) v394 t393) := ⟨h0_⟩
    replace Aa : Aside0 (Kd.V k46 46 w141 w.heap.size (fun k_ => k_ ≠ Ae ∧ k_ ≠ Ai) (.slice B8 Ac.length B9) Ac) := ⟨h1_⟩
    replace Ab : Aside0 (w141.heap[Ae]? = some (.cells #[.int .i64 Aj, .int .i64 Ak, .slice B8 Ac.length B9, .int .i64 Al, .int .i64 An, .int .i64 Ah, .int .i64 Ao] 26 (0, 0))) := ⟨h2_⟩
    have Ag : Aside0 (w141.heap[Ai]? = some (.cells #[.int .i64 0, .int .i64 0, .slice none 0 0, .int .i64 0, .int .i64 0, .int .i64 0, .int .i64 0] 26 (0, 0))) := ⟨h3_⟩
    have A7 : Aside0 (w.heap.size ≤ Ai) := ⟨h4_⟩
    have Av : Aside0 (w.heap.size ≤ Ai) := ⟨h5_⟩
    have Ap : Aside0 (Ae ≠ Ai) := ⟨h6_⟩
    have At : Aside0 (Ai ≠ Ae) := ⟨h7_⟩
    replace HB : Aside0 (Below w.heap.size w w141) := ⟨h8_⟩
    clear h0_ h1_ h2_ h3_ h4_ h5_ h6_ h7_ h8_
    have hHeld : w141.cell? ⟨Ae, 0, none⟩ = some (.int .i64 Aj) ∧ w141.cell? ⟨Ae, 1, none⟩ = some (.int .i64 Ak) ∧ w141.cell? ⟨Ae, 2, none⟩ = some (.slice B8 Ac.length B9) ∧ w141.cell? ⟨Ae, 3, none⟩ = some (.int .i64 Al) ∧ w141.cell? ⟨Ae, 4, none⟩ = some (.int .i64 An) ∧ w141.cell? ⟨Ae, 5, none⟩ = some (.int .i64 Ah) ∧ w141.cell? ⟨Ae, 6, none⟩ = some (.int .i64 Ao) ∧ w141.cell? (Aw.add ((Af).toNat * 7)) = some (.int .i64 ((rd_T37 l0 Af).f0)) ∧ w141.cell? ⟨(Aw.add ((Af).toNat * 7)).block, (Aw.add ((Af).toNat * 7)).off + 1, none⟩ = some (.slice Bt ((rd_T37 l0 Af).f1).length c390_1) ∧ w141.cell? ⟨(Aw.add ((Af).toNat * 7)).block, (Aw.add ((Af).toNat * 7)).off + 2, none⟩ = some (.int .i64 ((rd_T37 l0 Af).f2.f0)) ∧ w141.cell? ⟨(Aw.add ((Af).toNat * 7)).block, (Aw.add ((Af).toNat * 7)).off + 3, none⟩ = some (.int .i64 ((rd_T37 l0 Af).f2.f1)) ∧ w141.cell? ⟨(Aw.add ((Af).toNat * 7)).block, (Aw.add ((Af).toNat * 7)).off + 4, none⟩ = some (.int .i64 ((rd_T37 l0 Af).f2.f2)) ∧ w141.cell? ⟨(Aw.add ((Af).toNat * 7)).block, (Aw.add ((Af).toNat * 7)).off + 5, none⟩ = some (.int .i64 ((rd_T37 l0 Af).f3)) ∧ w141.cell? ⟨(Aw.add ((Af).toNat * 7)).block, (Aw.add ((Af).toNat * 7)).off + 6, none⟩ = some (.int .i64 ((rd_T37 l0 Af).f4)) := hS_
    obtain ⟨Ao144, co144, Ew⟩ := Kd.V_slice Br.out
    (first | subst Ew | (injection Ew with f1_ f2_ f3_; have f4_ := f1_.symm; have f5_ := f3_.symm; clear f1_ f2_ f3_; subst f4_; subst f5_))
    refine norm_ (a' := ?_) ?_ ?_
    rotate_left
    ·simp only [putAll, Act.put, List.setIfInBounds_toArray, List.set_cons_zero, List.set_cons_succ]
     rfl
    refine one_ (i := 10) (N := none) (bw 12 2047) rfl rfl (one_of HT_.out (by kernel_rfl)) (by decide) (fun K hK => ?_)
    have hs142 : w141.cell? ⟨Ai, 0, none⟩ = some (.int .i64 0) := (blk_cell Ag.out 0).trans rfl
    have hfs142 := blk_frozen Ag.out 0
    have hns142_0 := Ap.out
    have hms142_0 := At.out
    have hs143 : w141.cell? ⟨Ai, 1, none⟩ = some (.int .i64 0) := (blk_cell Ag.out 1).trans rfl
    have hfs143 := blk_frozen Ag.out 1
    have hns143_0 := Ap.out
    have hms143_0 := At.out
    have hs145 : w141.cell? ⟨Ai, 2, none⟩ = some (.slice none 0 0) := (blk_cell Ag.out 2).trans rfl
    have hfs145 := blk_frozen Ag.out 2
    have hns145_0 := Ap.out
    have hms145_0 := At.out
    have hs146 : w141.cell? ⟨Ai, 3, none⟩ = some (.int .i64 0) := (blk_cell Ag.out 3).trans rfl
    have hfs146 := blk_frozen Ag.out 3
    have hns146_0 := Ap.out
    have hms146_0 := At.out
    have hs147 : w141.cell? ⟨Ai, 4, none⟩ = some (.int .i64 0) := (blk_cell Ag.out 4).trans rfl
    have hfs147 := blk_frozen Ag.out 4
    have hns147_0 := Ap.out
    have hms147_0 := At.out
    have hs148 : w141.cell? ⟨Ai, 5, none⟩ = some (.int .i64 0) := (blk_cell Ag.out 5).trans rfl
    have hfs148 := blk_frozen Ag.out 5
    have hns148_0 := Ap.out
    have hms148_0 := At.out
    have hs149 : w141.cell? ⟨Ai, 6, none⟩ = some (.int .i64 0) := (blk_cell Ag.out 6).trans rfl
    have hfs149 := blk_frozen Ag.out 6
    have hns149_0 := Ap.out
    have hms149_0 := At.out
    refine skip_ (w1 := ?_) (by rfl) rfl ?_ ?_
    rotate_left
    ·go_simp
     rfl
    refine hK.out _ _ ⟨(cX1 hHeld.1 Ap.out), (cX1 hHeld.2.1 Ap.out), (cX1 hHeld.2.2.1 Ap.out), (cX1 hHeld.2.2.2.1 Ap.out), (cX1 hHeld.2.2.2.2.1 Ap.out), (cX1 hHeld.2.2.2.2.2.1 Ap.out), (cX1 hHeld.2.2.2.2.2.2.1 Ap.out), (cX1 hHeld.2.2.2.2.2.2.2.1 (bA Ba A7.out)), (cX1 hHeld.2.2.2.2.2.2.2.2.1 (bA Bb A7.out)), (cX1 hHeld.2.2.2.2.2.2.2.2.2.1 (bA Bc A7.out)), (cX1 hHeld.2.2.2.2.2.2.2.2.2.2.1 (bA Bd A7.out)), (cX1 hHeld.2.2.2.2.2.2.2.2.2.2.2.1 (bA Be A7.out)), (cX1 hHeld.2.2.2.2.2.2.2.2.2.2.2.2.1 (bA Bf A7.out)), (cX1 hHeld.2.2.2.2.2.2.2.2.2.2.2.2.2 (bA Bg A7.out))⟩ (fun hHeld => ?_)
    clear hK K
    refine pui 11 6 12 4095 HT_ ?_
    refine done_ (done_of HT_.out (by kernel_rfl)) ?_
    try go_wp2
    go_roundg k1
    case measure => have := HK1.out; omega
    case rel => exact ⟨(wrap64 (Af + 1)), (Aj), (Ak), (Ac), (Al), (An), (Ah), (Ao), (.slice B8 Ac.length B9), (by first | rfl | (simp; done) | (simp [*]; done)), H', ⟨by have := HK1.out; omega⟩, ⟨by (with_reducible repeat (first | apply Kd.V_alloc | apply Kd.V_drewN | apply Kd.V_drew)); exact Kd.V_mono (Vf7 (g := Ai) (Kd.V_mono Aa.out (fun k_ hk => (⟨hk, hk.2⟩ : _ ∧ k_ ≠ Ai))) (fun _ hk => hk.2)) (fun _ hk => hk.1.1)⟩, ⟨kX1a Ab.out Ap.out⟩, ⟨pE2 HB.out As.out Av.out⟩⟩
   rw [if_pos c12] at H
   have c12b0 : (t400 == 0) = true := beq_iff_eq.mpr c12
   have c12b1 : (t400 != 0) = false := bne_eq_false_iff_eq.mpr c12
   clear c12
   have H' := Am H
   clear H
   have p387 : 0 ≤ (Af : Int) := of_decide_eq_true pS
   have q387 : Af < (l0.length : Int) := of_decide_eq_true pS
   obtain ⟨Aw, Ct, c387_1, e387, Ck, Cl, Cm, Cn, Co, Cp, Cq, Bu, Bv⟩ := at_T37u HR0.out Af p387 q387 HB.out
   cases e387
   have Cb := Am Bv
   have Cc := Am Bu
   clear Bv Bu
   replace p387 := eq_true p387
   replace q387 := eq_true q387
   try go_wp2_with (first | ((with_reducible refine gate_callee (f := 7) rfl ?_); refine goesL_ (some 28) rfl rfl Try.func7 (by kernel_rfl) rfl #[.slice Ct ((rd_T37 l0 Af).f1).length c387_1] rfl pL ?_; (with_reducible refine (garnerlaw06_Light.calls k1 _ _ ((rd_T37 l0 Af).f1) true _ ?Az ?A1 A9.out).mono ?_); (case Az => exact pC (Kd.C_below Cb.out HB.out)); (case A1 => exact Cc.out); rintro e w' ⟨rfl, ⟨nd, rfl⟩⟩; refine ⟨_, rfl, ?_⟩; (try (rw [drewN_self wr]; generalize hq_ : World.drewN wr _ = wr; replace Aa : Aside0 (Kd.V k46 46 wr w.heap.size (fun k_ => k_ ≠ Ae) u386002 Ac) := ⟨by rw [← hq_]; exact (pV Aa.out)⟩; replace Ab : Aside0 (wr.heap[Ae]? = some (.cells #[.int .i64 Aj, .int .i64 Ak, u386002, .int .i64 Al, .int .i64 An, .int .i64 Ah, .int .i64 Ao] 26 (0, 0))) := ⟨by rw [← hq_]; exact (pK Ab.out)⟩; replace HB : Aside0 (Below w.heap.size w wr) := ⟨by rw [← hq_]; exact (pE HB.out As.out)⟩; clear hq_)); obtain ⟨Bw, Bx, E9⟩ := Kd.V_slice Aa.out; subst E9))
   replace Aa := dVa Aa
   replace Ab := kDa Ab
   replace HB := bDa HB
   have p390 : 0 ≤ (Af : Int) := of_decide_eq_true pS
   have q390 : Af < (l0.length : Int) := of_decide_eq_true pS
   obtain ⟨Dt, Bt, c390_1, e390, Bz, B0, B1, B2, B3, B4, B5, Cd, Ce, Ba, Bb, Bc, Bd, Be, Bf, Bg⟩ := at_T37w HR0.out Af p390 q390 HB.out
   obtain rfl : Aw = Dt := (by injection e390)
   have Bs := Am Ce
   have Cf := Am Cd
   clear Ce Cd
   replace p390 := eq_true p390
   replace q390 := eq_true q390
   refine start_ (n := 12) (S := fun w' => cG w' Ae 0 (.int .i64 Aj) ∧ cG w' Ae 1 (.int .i64 Ak) ∧ cG w' Ae 2 (.slice Bw Ac.length Bx) ∧ cG w' Ae 3 (.int .i64 Al) ∧ cG w' Ae 4 (.int .i64 An) ∧ cG w' Ae 5 (.int .i64 Ah) ∧ cG w' Ae 6 (.int .i64 Ao) ∧ w'.cell? (Aw.add ((Af).toNat * 7)) = some (.int .i64 ((rd_T37 l0 Af).f0)) ∧ cA w' (Aw.add ((Af).toNat * 7)) 1 (.slice Bt ((rd_T37 l0 Af).f1).length c390_1) ∧ cA w' (Aw.add ((Af).toNat * 7)) 2 (.int .i64 ((rd_T37 l0 Af).f2.f0)) ∧ cA w' (Aw.add ((Af).toNat * 7)) 3 (.int .i64 ((rd_T37 l0 Af).f2.f1)) ∧ cA w' (Aw.add ((Af).toNat * 7)) 4 (.int .i64 ((rd_T37 l0 Af).f2.f2)) ∧ cA w' (Aw.add ((Af).toNat * 7)) 5 (.int .i64 ((rd_T37 l0 Af).f3)) ∧ cA w' (Aw.add ((Af).toNat * 7)) 6 (.int .i64 ((rd_T37 l0 Af).f4))) (ds := []) #[false, false, false, false, false, false, false, false, false, false, false, false] (by kernel_rfl) rfl rfl ⟨(blk_cell Ab.out 0).trans rfl, (blk_cell Ab.out 1).trans rfl, (blk_cell Ab.out 2).trans rfl, (blk_cell Ab.out 3).trans rfl, (blk_cell Ab.out 4).trans rfl, (blk_cell Ab.out 5).trans rfl, (blk_cell Ab.out 6).trans rfl, (cT HB.out Ba), (cT HB.out Bb), (cT HB.out Bc), (cT HB.out Bd), (cT HB.out Be), (cT HB.out Bf), (cT HB.out Bg)⟩ (fun hHeld => ?_); refine with_tabW garnerlaw23_RaftMay.tab9 garnerlaw23_RaftMay.bits9 (fun HT_ HW_ => ?_)
   (first | generalize wr.drew = w14 at Aa Ab HB Bs Bz B0 B1 B2 B3 B4 B5 hHeld ⊢ | generalize wr.drew = w14 at Ab HB Bs Bz B0 B1 B2 B3 B4 B5 hHeld ⊢)
   refine pui 1 33 12 2 HT_ ?_
   refine pui 2 34 12 6 HT_ ?_
   refine pui 3 35 12 14 HT_ ?_
   refine tki 0 32 12 15 HT_ HW_ hHeld ?_
   refine tki 4 36 12 31 HT_ HW_ hHeld ?_
   refine join_ (σ := Value × Nat) 2 #[true, true, true, true, true, true, true, true, true, true, false, false] (fun s_ => [(37, .tuple #[.agg #[.int .i64 t391, .int .i64 t392, s_.1, .int .i64 t396, .int .i64 t397, .int .i64 t398, .int .i64 t399], .int .i64 t400]), (5, .pointer (some ⟨s_.2, 0, none⟩)), (31, .tuple #[.agg #[.int .i64 t391, .int .i64 t392, s_.1, .int .i64 t396, .int .i64 t397, .int .i64 t398, .int .i64 t399], .int .i64 t400]), (38, .agg #[.int .i64 t391, .int .i64 t392, s_.1, .int .i64 t396, .int .i64 t397, .int .i64 t398, .int .i64 t399]), (39, .int .i64 t400)]) (fun s_ w' => (cG w' Ae 0 (.int .i64 Aj) ∧ cG w' Ae 1 (.int .i64 Ak) ∧ cG w' Ae 2 (.slice Bw Ac.length Bx) ∧ cG w' Ae 3 (.int .i64 Al) ∧ cG w' Ae 4 (.int .i64 An) ∧ cG w' Ae 5 (.int .i64 Ah) ∧ cG w' Ae 6 (.int .i64 Ao) ∧ w'.cell? (Aw.add ((Af).toNat * 7)) = some (.int .i64 ((rd_T37 l0 Af).f0)) ∧ cA w' (Aw.add ((Af).toNat * 7)) 1 (.slice Bt ((rd_T37 l0 Af).f1).length c390_1) ∧ cA w' (Aw.add ((Af).toNat * 7)) 2 (.int .i64 ((rd_T37 l0 Af).f2.f0)) ∧ cA w' (Aw.add ((Af).toNat * 7)) 3 (.int .i64 ((rd_T37 l0 Af).f2.f1)) ∧ cA w' (Aw.add ((Af).toNat * 7)) 4 (.int .i64 ((rd_T37 l0 Af).f2.f2)) ∧ cA w' (Aw.add ((Af).toNat * 7)) 5 (.int .i64 ((rd_T37 l0 Af).f3)) ∧ cA w' (Aw.add ((Af).toNat * 7)) 6 (.int .i64 ((rd_T37 l0 Af).f4))) ∧ (Kd.V k46 46 w' w.heap.size (fun k_ => k_ ≠ Ae ∧ k_ ≠ s_.2) s_.1 t393) ∧ (Kd.V k46 46 w' w.heap.size (fun k_ => k_ ≠ Ae ∧ k_ ≠ s_.2) (.slice Bw Ac.length Bx) Ac) ∧ (w'.heap[Ae]? = some (.cells #[.int .i64 Aj, .int .i64 Ak, .slice Bw Ac.length Bx, .int .i64 Al, .int .i64 An, .int .i64 Ah, .int .i64 Ao] 26 (0, 0))) ∧ (w'.heap[s_.2]? = some (.cells #[.int .i64 0, .int .i64 0, .slice none 0 0, .int .i64 0, .int .i64 0, .int .i64 0, .int .i64 0] 26 (0, 0))) ∧ (w.heap.size ≤ s_.2) ∧ (w.heap.size ≤ s_.2) ∧ (Ae ≠ s_.2) ∧ (s_.2 ≠ Ae) ∧ (Below w.heap.size w w')) ?_ ?_
   rotate_left
   ·intro hCont
    refine two_ (i := 5) (j := 9) (Ni := some 37) (Nj := some 5) (bw 12 63) #[true, true, true, true, true, false, false, false, false, true, false, false] rfl rfl rfl rfl (two_of HT_.out (by kernel_rfl)) (by decide) (by decide) (fun K hK => ?_) (fun K hK => ?_)
    ·skip
     refine goes_ Try.func11 (by kernel_rfl) rfl #[.agg #[.int .i64 Aj, .int .i64 Ak, .slice Bw Ac.length Bx, .int .i64 Al, .int .i64 An, .int .i64 Ah, .int .i64 Ao], .agg #[.int .i64 ((rd_T37 l0 Af).f0), .slice Bt ((rd_T37 l0 Af).f1).length c390_1, .int .i64 ((rd_T37 l0 Af).f2.f0), .int .i64 ((rd_T37 l0 Af).f2.f1), .int .i64 ((rd_T37 l0 Af).f2.f2), .int .i64 ((rd_T37 l0 Af).f3), .int .i64 ((rd_T37 l0 Af).f4)]] (by rfl) rfl rfl pL ?_
     with_reducible refine (garnerlaw23_act.calls k1 Aj Ak (fun k_ => k_ ≠ Ae) _ _ Ac Al An Ah Ao ((rd_T37 l0 Af).f0) _ _ ((rd_T37 l0 Af).f1) ((rd_T37 l0 Af).f2.f0) ((rd_T37 l0 Af).f2.f1) ((rd_T37 l0 Af).f2.f2) ((rd_T37 l0 Af).f3) ((rd_T37 l0 Af).f4) t391 t392 t393 t396 t397 t398 t399 t400 _ ?Az ?A1 ?B6 A11.out).mono ?_
     (case Az => exact Aa.out)
     (case A1 => exact pC (Kd.C_below Bs.out HB.out))
     (case B6 => exact Cf.out)
     rintro e w15 ⟨v394, rfl, ho0, hb⟩
     refine ⟨_, rfl, ?_⟩
     replace Aa := bVa Aa hb
     have Br := Am (Kd.V_lower (Kd.V_mono (ok' := fun k_ => k_ ≠ Ae) ho0 (fun k_ hk_ => Or.elim hk_ (fun hs_ => hs_) (fun hn_ => (kF Ab.out k_ hn_)))) (below_size (pE HB.out As.out)))
     replace Ab := kBa Ab hb
     replace HB := Am (below_step (pE HB.out As.out) hb)
     (try clear hb)
     (try clear hb2)
     (try clear hk)
     (try clear hi)
     (try clear ho0)
     refine hK.out _ _ ⟨(blk_cell Ab.out 0).trans rfl, (blk_cell Ab.out 1).trans rfl, (blk_cell Ab.out 2).trans rfl, (blk_cell Ab.out 3).trans rfl, (blk_cell Ab.out 4).trans rfl, (blk_cell Ab.out 5).trans rfl, (blk_cell Ab.out 6).trans rfl, (cT HB.out Ba), (cT HB.out Bb), (cT HB.out Bc), (cT HB.out Bd), (cT HB.out Be), (cT HB.out Bf), (cT HB.out Bg)⟩ (fun hHeld => ?_)
     clear hK K
     refine norm_ (a' := ?_) ?_ ?_
     rotate_left
     ·show Act.put _ (some 37) _ = _
      simp only [Act.put, List.setIfInBounds_toArray, List.set_cons_zero, List.set_cons_succ, i64_w, i32_w]
      rfl
     refine pui 6 31 12 127 HT_ ?_
     refine pui 7 38 12 255 HT_ ?_
     refine pui 8 39 12 511 HT_ ?_
     refine onei 9 5 12 1023 HT_ (fun K hK => ?_)
     refine box_step ?hg (N := 5) ?hd (cs := #[.int .i64 0, .int .i64 0, .slice none 0 0, .int .i64 0, .int .i64 0, .int .i64 0, .int .i64 0]) (t := 26) ?hr ?_; (case hd => rfl); (case hg => rfl); (case hr => first | (go_simp; done) | (go_simp; rfl))
     intro Ai hg w16 hbox hb
     replace Aa := Am (Kd.V_below (Kd.V_elderB (pV Aa.out) Ai (Nat.le_of_eq hg.symm)) hb)
     replace Br := Am (Kd.V_below (Kd.V_elderB (pV Br.out) Ai (Nat.le_of_eq hg.symm)) hb)
     have Ag := Am (hbox)
     have A7 := Am ((by rw [hg]; exact (below_size (pE HB.out As.out)) : w.heap.size ≤ Ai))
     have Av := Am ((by rw [hg]; exact (below_size (pE HB.out As.out)) : w.heap.size ≤ Ai))
     replace HB := Am (below_step (pE HB.out As.out) hb)
     have Ap := Am ((by rw [hg]; exact Nat.ne_of_lt (kL Ab.out) : Ae ≠ Ai))
     have At := Am ((by rw [hg]; exact Nat.ne_of_gt (kL Ab.out) : Ai ≠ Ae))
     replace Ab := kBa Ab hb
     clear hb hbox hg
     refine hK.out _ _ ⟨(blk_cell Ab.out 0).trans rfl, (blk_cell Ab.out 1).trans rfl, (blk_cell Ab.out 2).trans rfl, (blk_cell Ab.out 3).trans rfl, (blk_cell Ab.out 4).trans rfl, (blk_cell Ab.out 5).trans rfl, (blk_cell Ab.out 6).trans rfl, (cT HB.out Ba), (cT HB.out Bb), (cT HB.out Bc), (cT HB.out Bd), (cT HB.out Be), (cT HB.out Bf), (cT HB.out Bg)⟩ (fun hHeld => ?_)
     clear hK K
     refine norm_ (a' := ?_) ?_ ?_
     rotate_left
     ·show Act.put _ (some 5) _ = _
      simp only [Act.put, List.setIfInBounds_toArray, List.set_cons_zero, List.set_cons_succ, i64_w, i32_w]
      rfl
     exact norm_ (by simp only [putAll, Act.put, List.setIfInBounds_toArray, List.set_cons_zero, List.set_cons_succ]) (hCont (v394, Ai) _ ⟨hHeld, (pV Br.out), (pV Aa.out), (pK Ab.out), (pK Ag.out), A7.out, Av.out, Ap.out, At.out, (pE2 HB.out As.out Av.out)⟩)
    skip
    refine box_step ?hg (N := 5) ?hd (cs := #[.int .i64 0, .int .i64 0, .slice none 0 0, .int .i64 0, .int .i64 0, .int .i64 0, .int .i64 0]) (t := 26) ?hr ?_; (case hd => rfl); (case hg => rfl); (case hr => first | (go_simp; done) | (go_simp; rfl))
    intro Ai hg w15 hbox hb
    replace Aa := Am (Kd.V_below (Kd.V_elderB (pV Aa.out) Ai (Nat.le_of_eq hg.symm)) hb)
    have Ag := Am (hbox)
    have A7 := Am ((by rw [hg]; exact (below_size (pE HB.out As.out)) : w.heap.size ≤ Ai))
    have Av := Am ((by rw [hg]; exact (below_size (pE HB.out As.out)) : w.heap.size ≤ Ai))
    replace HB := Am (below_step (pE HB.out As.out) hb)
    have Ap := Am ((by rw [hg]; exact Nat.ne_of_lt (kL Ab.out) : Ae ≠ Ai))
    have At := Am ((by rw [hg]; exact Nat.ne_of_gt (kL Ab.out) : Ai ≠ Ae))
    replace Ab := kBa Ab hb
    clear hb hbox hg
    refine hK.out _ _ ⟨(blk_cell Ab.out 0).trans rfl, (blk_cell Ab.out 1).trans rfl, (blk_cell Ab.out 2).trans rfl, (blk_cell Ab.out 3).trans rfl, (blk_cell Ab.out 4).trans rfl, (blk_cell Ab.out 5).trans rfl, (blk_cell Ab.out 6).trans rfl, (cT HB.out Ba), (cT HB.out Bb), (cT HB.out Bc), (cT HB.out Bd), (cT HB.out Be), (cT HB.out Bf), (cT HB.out Bg)⟩ (fun hHeld => ?_)
    clear hK K
    refine norm_ (a' := ?_) ?_ ?_
    rotate_left
    ·show Act.put _ (some 5) _ = _
     simp only [Act.put, List.setIfInBounds_toArray, List.set_cons_zero, List.set_cons_succ, i64_w, i32_w]
     rfl
    refine onei 5 37 12 575 HT_ (fun K hK => ?_)
    refine goes_ Try.func11 (by kernel_rfl) rfl #[.agg #[.int .i64 Aj, .int .i64 Ak, .slice Bw Ac.length Bx, .int .i64 Al, .int .i64 An, .int .i64 Ah, .int .i64 Ao], .agg #[.int .i64 ((rd_T37 l0 Af).f0), .slice Bt ((rd_T37 l0 Af).f1).length c390_1, .int .i64 ((rd_T37 l0 Af).f2.f0), .int .i64 ((rd_T37 l0 Af).f2.f1), .int .i64 ((rd_T37 l0 Af).f2.f2), .int .i64 ((rd_T37 l0 Af).f3), .int .i64 ((rd_T37 l0 Af).f4)]] (by rfl) rfl rfl pL ?_
    with_reducible refine (garnerlaw23_act.calls k1 Aj Ak (fun k_ => (k_ ≠ Ae ∧ k_ ≠ Ai)) _ _ Ac Al An Ah Ao ((rd_T37 l0 Af).f0) _ _ ((rd_T37 l0 Af).f1) ((rd_T37 l0 Af).f2.f0) ((rd_T37 l0 Af).f2.f1) ((rd_T37 l0 Af).f2.f2) ((rd_T37 l0 Af).f3) ((rd_T37 l0 Af).f4) t391 t392 t393 t396 t397 t398 t399 t400 _ ?Az ?A1 ?B6 A11.out).mono ?_
    (case Az => exact Aa.out)
    (case A1 => exact pC (Kd.C_below Bs.out HB.out))
    (case B6 => exact Cf.out)
    rintro e w16 ⟨v394, rfl, ho0, hb⟩
    refine ⟨_, rfl, ?_⟩
    replace Aa := bVa Aa hb
    have Br := Am (Kd.V_lower (Kd.V_mono (ok' := fun k_ => k_ ≠ Ae ∧ k_ ≠ Ai) ho0 (fun k_ hk_ => ⟨Or.elim hk_ (fun hs_ => hs_.1) (fun hn_ => (kF Ab.out k_ hn_)), Or.elim hk_ (fun hs_ => hs_.2) (fun hn_ => (kF Ag.out k_ hn_))⟩)) (below_size (pE2 HB.out As.out Av.out)))
    replace Ab := kBa Ab hb
    replace Ag := kBa Ag hb
    replace HB := Am (below_step (pE2 HB.out As.out Av.out) hb)
    (try clear hb)
    (try clear hb2)
    (try clear hk)
    (try clear hi)
    (try clear ho0)
    refine hK.out _ _ ⟨(blk_cell Ab.out 0).trans rfl, (blk_cell Ab.out 1).trans rfl, (blk_cell Ab.out 2).trans rfl, (blk_cell Ab.out 3).trans rfl, (blk_cell Ab.out 4).trans rfl, (blk_cell Ab.out 5).trans rfl, (blk_cell Ab.out 6).trans rfl, (cT HB.out Ba), (cT HB.out Bb), (cT HB.out Bc), (cT HB.out Bd), (cT HB.out Be), (cT HB.out Bf), (cT HB.out Bg)⟩ (fun hHeld => ?_)
    clear hK K
    refine norm_ (a' := ?_) ?_ ?_
    rotate_left
    ·show Act.put _ (some 37) _ = _
     simp only [Act.put, List.setIfInBounds_toArray, List.set_cons_zero, List.set_cons_succ, i64_w, i32_w]
     rfl
    refine pui 6 31 12 639 HT_ ?_
    refine pui 7 38 12 767 HT_ ?_
    refine pui 8 39 12 1023 HT_ ?_
    exact norm_ (by simp only [putAll, Act.put, List.setIfInBounds_toArray, List.set_cons_zero, List.set_cons_succ]) (hCont (v394, Ai) _ ⟨hHeld, (pV Br.out), (pV Aa.out), (pK Ab.out), (pK Ag.out), A7.out, Av.out, Ap.out, At.out, (pE2 HB.out As.out Av.out)⟩)
   rintro ⟨v394, Ai⟩ w17 ⟨hS_, h0_, h1_, h2_, h3_, h4_, h5_, h6_, h7_, h8_⟩
   have Br : Aside0 (Kd.V k46 46 w17 w.heap.size (fun k_ => k_ ≠ Ae ∧ k_ ≠ Ai) v394 t393) := ⟨h0_⟩
   replace Aa : Aside0 (Kd.V k46 46 w17 w.heap.size (fun k_ => k_ ≠ Ae ∧ k_ ≠ Ai) (.slice Bw Ac.length Bx) Ac) := ⟨h1_⟩
   replace Ab : Aside0 (w17.heap[Ae]? = some (.cells #[.int .i64 Aj, .int .i64 Ak, .slice Bw Ac.length Bx, .int .i64 Al, .int .i64 An, .int .i64 Ah, .int .i64 Ao] 26 (0, 0))) := ⟨h2_⟩
   have Ag : Aside0 (w17.heap[Ai]? = some (.cells #[.int .i64 0, .int .i64 0, .slice none 0 0, .int .i64 0, .int .i64 0, .int .i64 0, .int .i64 0] 26 (0, 0))) := ⟨h3_⟩
   have A7 : Aside0 (w.heap.size ≤ Ai) := ⟨h4_⟩
   have Av : Aside0 (w.heap.size ≤ Ai) := ⟨h5_⟩
   have Ap : Aside0 (Ae ≠ Ai) := ⟨h6_⟩
   have At : Aside0 (Ai ≠ Ae) := ⟨h7_⟩
   replace HB : Aside0 (Below w.heap.size w w17) := ⟨h8_⟩
   clear h0_ h1_ h2_ h3_ h4_ h5_ h6_ h7_ h8_
   have hHeld : w17.cell? ⟨Ae, 0, none⟩ = some (.int .i64 Aj) ∧ w17.cell? ⟨Ae, 1, none⟩ = some (.int .i64 Ak) ∧ w17.cell? ⟨Ae, 2, none⟩ = some (.slice Bw Ac.length Bx) ∧ w17.cell? ⟨Ae, 3, none⟩ = some (.int .i64 Al) ∧ w17.cell? ⟨Ae, 4, none⟩ = some (.int .i64 An) ∧ w17.cell? ⟨Ae, 5, none⟩ = some (.int .i64 Ah) ∧ w17.cell? ⟨Ae, 6, none⟩ = some (.int .i64 Ao) ∧ w17.cell? (Aw.add ((Af).toNat * 7)) = some (.int .i64 ((rd_T37 l0 Af).f0)) ∧ w17.cell? ⟨(Aw.add ((Af).toNat * 7)).block, (Aw.add ((Af).toNat * 7)).off + 1, none⟩ = some (.slice Bt ((rd_T37 l0 Af).f1).length c390_1) ∧ w17.cell? ⟨(Aw.add ((Af).toNat * 7)).block, (Aw.add ((Af).toNat * 7)).off + 2, none⟩ = some (.int .i64 ((rd_T37 l0 Af).f2.f0)) ∧ w17.cell? ⟨(Aw.add ((Af).toNat * 7)).block, (Aw.add ((Af).toNat * 7)).off + 3, none⟩ = some (.int .i64 ((rd_T37 l0 Af).f2.f1)) ∧ w17.cell? ⟨(Aw.add ((Af).toNat * 7)).block, (Aw.add ((Af).toNat * 7)).off + 4, none⟩ = some (.int .i64 ((rd_T37 l0 Af).f2.f2)) ∧ w17.cell? ⟨(Aw.add ((Af).toNat * 7)).block, (Aw.add ((Af).toNat * 7)).off + 5, none⟩ = some (.int .i64 ((rd_T37 l0 Af).f3)) ∧ w17.cell? ⟨(Aw.add ((Af).toNat * 7)).block, (Aw.add ((Af).toNat * 7)).off + 6, none⟩ = some (.int .i64 ((rd_T37 l0 Af).f4)) := hS_
   obtain ⟨Ca, By, Ex⟩ := Kd.V_slice Br.out
   (first | subst Ex | (injection Ex with f1_ f2_ f3_; have f4_ := f1_.symm; have f5_ := f3_.symm; clear f1_ f2_ f3_; subst f4_; subst f5_))
   refine norm_ (a' := ?_) ?_ ?_
   rotate_left
   ·simp only [putAll, Act.put, List.setIfInBounds_toArray, List.set_cons_zero, List.set_cons_succ]
    rfl
   refine one_ (i := 10) (N := none) (bw 12 2047) rfl rfl (one_of HT_.out (by kernel_rfl)) (by decide) (fun K hK => ?_)
   have hs18 : w17.cell? ⟨Ai, 0, none⟩ = some (.int .i64 0) := (blk_cell Ag.out 0).trans rfl
   have hfs18 := blk_frozen Ag.out 0
   have hns18_0 := Ap.out
   have hms18_0 := At.out
   have hs19 : w17.cell? ⟨Ai, 1, none⟩ = some (.int .i64 0) := (blk_cell Ag.out 1).trans rfl
   have hfs19 := blk_frozen Ag.out 1
   have hns19_0 := Ap.out
   have hms19_0 := At.out
   have hs21 : w17.cell? ⟨Ai, 2, none⟩ = some (.slice none 0 0) := (blk_cell Ag.out 2).trans rfl
   have hfs21 := blk_frozen Ag.out 2
   have hns21_0 := Ap.out
   have hms21_0 := At.out
   have hs22 : w17.cell? ⟨Ai, 3, none⟩ = some (.int .i64 0) := (blk_cell Ag.out 3).trans rfl
   have hfs22 := blk_frozen Ag.out 3
   have hns22_0 := Ap.out
   have hms22_0 := At.out
   have hs23 : w17.cell? ⟨Ai, 4, none⟩ = some (.int .i64 0) := (blk_cell Ag.out 4).trans rfl
   have hfs23 := blk_frozen Ag.out 4
   have hns23_0 := Ap.out
   have hms23_0 := At.out
   have hs24 : w17.cell? ⟨Ai, 5, none⟩ = some (.int .i64 0) := (blk_cell Ag.out 5).trans rfl
   have hfs24 := blk_frozen Ag.out 5
   have hns24_0 := Ap.out
   have hms24_0 := At.out
   have hs25 : w17.cell? ⟨Ai, 6, none⟩ = some (.int .i64 0) := (blk_cell Ag.out 6).trans rfl
   have hfs25 := blk_frozen Ag.out 6
   have hns25_0 := Ap.out
   have hms25_0 := At.out
   refine skip_ (w1 := ?_) (by rfl) rfl ?_ ?_
   rotate_left
   ·go_simp
    rfl
   refine hK.out _ _ ⟨(cX1 hHeld.1 Ap.out), (cX1 hHeld.2.1 Ap.out), (cX1 hHeld.2.2.1 Ap.out), (cX1 hHeld.2.2.2.1 Ap.out), (cX1 hHeld.2.2.2.2.1 Ap.out), (cX1 hHeld.2.2.2.2.2.1 Ap.out), (cX1 hHeld.2.2.2.2.2.2.1 Ap.out), (cX1 hHeld.2.2.2.2.2.2.2.1 (bA Ba A7.out)), (cX1 hHeld.2.2.2.2.2.2.2.2.1 (bA Bb A7.out)), (cX1 hHeld.2.2.2.2.2.2.2.2.2.1 (bA Bc A7.out)), (cX1 hHeld.2.2.2.2.2.2.2.2.2.2.1 (bA Bd A7.out)), (cX1 hHeld.2.2.2.2.2.2.2.2.2.2.2.1 (bA Be A7.out)), (cX1 hHeld.2.2.2.2.2.2.2.2.2.2.2.2.1 (bA Bf A7.out)), (cX1 hHeld.2.2.2.2.2.2.2.2.2.2.2.2.2 (bA Bg A7.out))⟩ (fun hHeld => ?_)
   clear hK K
   refine pui 11 6 12 4095 HT_ ?_
   refine done_ (done_of HT_.out (by kernel_rfl)) ?_
   have hnb26 := At.out
   have hnc26 := Ap.out
   obtain ⟨Dd, De, Df, Dg, Dh, Di, Dj⟩ := bc7 Ag.out
   obtain ⟨Dk, Dl, Dm, Dn, Do, Dp, Dq⟩ := bf7 Ag.out
   try go_wp2
   go_loopg [7] k1 (fun kq v7 w' => ∃ (A8 : Int), v7 = .int .i64 A8 ∧ Aside0 (garnerlaw23_RaftMay.l1 kq l0 Af A8 Aj Ak Ac Al An Ah Ao t391 t392 t393 t396 t397 t398 t399 = some r) ∧ Aside0 (kq ≤ k1) ∧ Aside0 (Kd.V k46 46 w' w.heap.size (fun k_ => k_ ≠ Ae ∧ k_ ≠ Ai) (.slice Bw Ac.length Bx) Ac) ∧ Aside0 (Kd.V k46 46 w' w.heap.size (fun k_ => k_ ≠ Ae ∧ k_ ≠ Ai) (.slice Ca t393.length By) t393) ∧ Aside0 (w'.heap[Ae]? = some (.cells #[.int .i64 Aj, .int .i64 Ak, (.slice Bw Ac.length Bx), .int .i64 Al, .int .i64 An, .int .i64 Ah, .int .i64 Ao] 26 (0, 0))) ∧ Aside0 (w'.heap[Ai]? = some (.cells #[.int .i64 t391, .int .i64 t392, (.slice Ca t393.length By), .int .i64 t396, .int .i64 t397, .int .i64 t398, .int .i64 t399] 26 (0, 0))) ∧ Aside0 (Below w.heap.size w w'))
   case atStart => exact ⟨(wrap64 (t391 + 1)), (by first | rfl | (simp; done) | (simp [*]; done)), H', ⟨Nat.le_refl _⟩, ⟨by (with_reducible repeat (first | apply Kd.V_alloc | apply Kd.V_drewN | apply Kd.V_drew)); exact Kd.V_mono (Vf7 (g := Ai) (Kd.V_mono Aa.out (fun k_ hk => (⟨hk, hk.2⟩ : _ ∧ k_ ≠ Ai))) (fun _ hk => hk.2)) (fun _ hk => ⟨hk.1.1, hk.1.2⟩)⟩, ⟨by (with_reducible repeat (first | apply Kd.V_alloc | apply Kd.V_drewN | apply Kd.V_drew)); exact Kd.V_mono (Vf7 (g := Ai) (Kd.V_mono Br.out (fun k_ hk => (⟨hk, hk.2⟩ : _ ∧ k_ ≠ Ai))) (fun _ hk => hk.2)) (fun _ hk => ⟨hk.1.1, hk.1.2⟩)⟩, ⟨kX1a Ab.out Ap.out⟩, ⟨kX0 Ag.out⟩, ⟨pE2 HB.out As.out Av.out⟩⟩
   case round =>
    clear H'
    try clear c1
    try clear c2
    try clear c2b0
    try clear c2b1
    try clear p2
    try clear c3
    try clear p3
    try clear q3
    try clear hx3
    try clear c4
    try clear p6
    try clear c7
    try clear c7b0
    try clear c8
    try clear c8b0
    try clear c10
    try clear c11
    try clear c12
    try clear c12b0
    try clear c12b1
    try clear c26
    try clear Dd De Df Dg Dh Di Dj
    try clear Cz C0 C1 C2 C3 C4 C5
    try clear Dk Dl Dm Dn Do Dp Dq
    try clear C6 C7 C8 C9 Da Db Dc
    try clear Ck
    try clear Cl
    try clear Cm
    try clear Cn
    try clear Co
    try clear Cp
    try clear Cq
    try clear Bz
    try clear B0
    try clear B1
    try clear B2
    try clear B3
    try clear B4
    try clear B5
    try clear p2
    try clear p387
    try clear p390
    try clear q387
    try clear q390
    obtain ⟨A8, rfl, HA, HK2, Aa, Ad, Ab, Ag, HB⟩ := hrel
    cases gk with
    | zero => exact absurd HA.out (by simp [garnerlaw23_RaftMay.l1])
    | succ k2 =>
     have H := HA.out
     clear HA
     simp only [garnerlaw23_RaftMay.l1] at H
     have HC28 := Am H
     clear H
     go_upto_region 12 with (fail)
     go_cut [57] (fun v57 wc => ∃ (kq : Nat) (Cu : Bool), v57 = .bool Cu ∧ Aside0 (garnerlaw23_RaftMay.j2 kq l0 Af A8 Cu Aj Ak Ac Al An Ah Ao t391 t392 t393 t396 t397 t398 t399 = some r) ∧ Aside0 (kq ≤ k2) ∧ Aside0 (Kd.V k46 46 wc w.heap.size (fun k_ => k_ ≠ Ae ∧ k_ ≠ Ai) (.slice Bw Ac.length Bx) Ac) ∧ Aside0 (Kd.V k46 46 wc w.heap.size (fun k_ => k_ ≠ Ae ∧ k_ ≠ Ai) (.slice Ca t393.length By) t393) ∧ Aside0 (wc.heap[Ae]? = some (.cells #[.int .i64 Aj, .int .i64 Ak, (.slice Bw Ac.length Bx), .int .i64 Al, .int .i64 An, .int .i64 Ah, .int .i64 Ao] 26 (0, 0))) ∧ Aside0 (wc.heap[Ai]? = some (.cells #[.int .i64 t391, .int .i64 t392, (.slice Ca t393.length By), .int .i64 t396, .int .i64 t397, .int .i64 t398, .int .i64 t399] 26 (0, 0))) ∧ Aside0 (Below w.heap.size w wc))
     case first =>
      have H := HC28.out
      clear HC28
      by_cases c29 : A8 ≤ Ah
      rotate_left
      ·rw [if_neg c29] at H
       have c29b0 : decide (A8 ≤ Ah) = false := decide_eq_false c29
       clear c29
       (first | rw [c29b0] | (simp only [i64_w, i32_w]; rw [c29b0]) | skip)
       have H' := Am H
       clear H
       have hnb34 := Ap.out
       have hnc34 := At.out
       obtain ⟨Eg, Eh, Ei, Ej, Ek, El, Em⟩ := bc7 Ab.out
       obtain ⟨En, Eo, Ep, Er, Es, Et, Eu⟩ := bf7 Ab.out
       go_wp2
       go_meet
       case rel => exact ⟨_, (false), (by first | rfl | (simp; done) | (simp [*]; done)), H', ⟨by have := HK1.out; have := HK2.out; first | omega | exact Nat.le_refl _⟩, ⟨by (with_reducible repeat (first | apply Kd.V_alloc | apply Kd.V_drewN | apply Kd.V_drew)); exact Aa.out⟩, ⟨by (with_reducible repeat (first | apply Kd.V_alloc | apply Kd.V_drewN | apply Kd.V_drew)); exact Ad.out⟩, ⟨pK Ab.out⟩, ⟨pK Ag.out⟩, ⟨pE2 HB.out As.out Av.out⟩⟩
      rw [if_pos c29] at H
      have c29b0 : decide (A8 ≤ Ah) = true := decide_eq_true c29
      clear c29
      (first | rw [c29b0] | (simp only [i64_w, i32_w]; rw [c29b0]) | skip)
      by_cases c30 : 0 ≤ Af
      rotate_left
      ·rw [if_neg c30] at H
       exact absurd H (by simp)
      rw [if_pos c30] at H
      have c30b0 : decide (0 ≤ Af) = true := decide_eq_true c30
      clear c30
      by_cases c31 : Af < (l0.length : Int)
      rotate_left
      ·rw [if_neg c31] at H
       exact absurd H (by simp)
      rw [if_pos c31] at H
      have c31b0 : decide (Af < (l0.length : Int)) = true := decide_eq_true c31
      clear c31
      have H' := Am H
      clear H
      have hnb32 := Ap.out
      have hnc32 := At.out
      obtain ⟨Dv, Dw, Dx, Dy, Dz, D0, D1⟩ := bc7 Ab.out
      obtain ⟨D2, D3, D4, D5, D6, D7, D8⟩ := bf7 Ab.out
      have p402 : 0 ≤ (Af : Int) := of_decide_eq_true pS
      have q402 : Af < (l0.length : Int) := of_decide_eq_true pS
      obtain ⟨Ez, A402_1, c402_1, e402, D9, Ea, Eb, Ec, Ed, Ee, Ef, Dr, Ds⟩ := at_T37u HR0.out Af p402 q402 HB.out
      obtain rfl : Aw = Ez := (by injection e402)
      have HR402_1 := Am Ds
      have HC402_1 := Am Dr
      clear Ds Dr
      replace p402 := eq_true p402
      replace q402 := eq_true q402
      go_wp2
      go_meet
      case rel => exact ⟨_, ((((rd_T37 l0 Af).f0) != 4)), (by first | rfl | (simp; done) | (simp [*]; done)), H', ⟨by have := HK1.out; have := HK2.out; first | omega | exact Nat.le_refl _⟩, ⟨by (with_reducible repeat (first | apply Kd.V_alloc | apply Kd.V_drewN | apply Kd.V_drew)); exact Aa.out⟩, ⟨by (with_reducible repeat (first | apply Kd.V_alloc | apply Kd.V_drewN | apply Kd.V_drew)); exact Ad.out⟩, ⟨pK Ab.out⟩, ⟨pK Ag.out⟩, ⟨pE2 HB.out As.out Av.out⟩⟩
     case rest =>
      clear HC28
      try clear c1
      try clear c2
      try clear c2b0
      try clear c2b1
      try clear p2
      try clear c3
      try clear p3
      try clear q3
      try clear hx3
      try clear c4
      try clear p4
      try clear q4
      try clear hx4
      try clear p6
      try clear c7
      try clear c7b0
      try clear c8
      try clear c8b0
      try clear c10
      try clear c11
      try clear c12
      try clear c12b0
      try clear c12b1
      try clear c26
      try clear c29
      try clear c29b0
      try clear c30
      try clear c30b0
      try clear c31
      try clear c31b0
      try clear c32
      try clear c34
      try clear Dd De Df Dg Dh Di Dj
      try clear Dv Dw Dx Dy Dz D0 D1
      try clear Eg Eh Ei Ej Ek El Em
      try clear Cz C0 C1 C2 C3 C4 C5
      try clear Dk Dl Dm Dn Do Dp Dq
      try clear D2 D3 D4 D5 D6 D7 D8
      try clear En Eo Ep Er Es Et Eu
      try clear C6 C7 C8 C9 Da Db Dc
      try clear Ck
      try clear Cl
      try clear Cm
      try clear Cn
      try clear Co
      try clear Cp
      try clear Cq
      try clear Bz
      try clear B0
      try clear B1
      try clear B2
      try clear B3
      try clear B4
      try clear B5
      try clear D9
      try clear Ea
      try clear Eb
      try clear Ec
      try clear Ed
      try clear Ee
      try clear Ef
      try clear p2
      try clear p3
      try clear p387
      try clear p390
      try clear p402
      try clear p6
      try clear q3
      try clear q387
      try clear q390
      try clear q402
      obtain ⟨kq, Cu, rfl, HA, HJ27, Aa, Ad, Ab, Ag, HB⟩ := hcut
      cases kq with
      | zero => exact absurd HA.out (by simp [garnerlaw23_RaftMay.j2])
      | succ kj27 =>
       have H := HA.out
       clear HA
       simp only [garnerlaw23_RaftMay.j2] at H
       by_cases c36 : Cu = true
       rotate_left
       ·replace c36 := Bool.eq_false_iff.mpr c36
        subst c36
        have H1 : ((garnerref23_May.f kj27 t391 t392 t393 t396 t397 t398 t399).bind fun t403 => (if t403 = true then (garnerlaw23_RaftMay.l0 kj27 l0 (wrap64 (Af + 1)) t391 t392 t393 t396 t397 t398 t399) else (some false))) = some r := by rw [if_neg (show ¬ (false = true) by decide)] at H; exact H
        clear H
        have H := H1
        clear H1
        replace H := Option.bind_eq_some_iff.mp H
        obtain ⟨t403, A1270, H⟩ := H
        replace H : (if t403 = true then (garnerlaw23_RaftMay.l0 kj27 l0 (wrap64 (Af + 1)) t391 t392 t393 t396 t397 t398 t399) else (some false)) = some r := H
        have A127 := Am A1270
        clear A1270
        by_cases c128 : t403 = true
        rotate_left
        ·replace c128 := Bool.eq_false_iff.mpr c128
         subst c128
         have H1 : (some false) = some r := by rw [if_neg (show ¬ (false = true) by decide)] at H; exact H
         clear H
         have H := H1
         clear H1
         obtain rfl := Option.some.inj H
         have hnb133 := At.out
         have hnc133 := Ap.out
         obtain ⟨hcz134_0, hcz134_1, hcz134_2, hcz134_3, hcz134_4, hcz134_5, hcz134_6⟩ := bc7 Ag.out
         obtain ⟨hfz134_0, hfz134_1, hfz134_2, hfz134_3, hfz134_4, hfz134_5, hfz134_6⟩ := bf7 Ag.out
         obtain ⟨hcz135_0, hcz135_1, hcz135_2, hcz135_3, hcz135_4, hcz135_5, hcz135_6⟩ := bc7 Ab.out
         obtain ⟨hfz135_0, hfz135_1, hfz135_2, hfz135_3, hfz135_4, hfz135_5, hfz135_6⟩ := bf7 Ab.out
         go_wp2_with (first | ((with_reducible refine gate_callee (f := 14) rfl ?_); refine goesL_ (some 88) rfl rfl Try.func14 (by kernel_rfl) rfl #[.agg #[.int .i64 t391, .int .i64 t392, .slice Ca t393.length By, .int .i64 t396, .int .i64 t397, .int .i64 t398, .int .i64 t399]] rfl pL ?_; (with_reducible refine (garnerref23_May.calls kj27 t391 t392 _ _ t393 t396 t397 t398 t399 false _ ?Az ?A1 A127.out).mono ?_); (case Az => refine (Kd.V_reads' (e := 46) (base := w.heap.size) (ok := fun k_ => (k_ ≠ Ae ∧ k_ ≠ Ai)) (n := t393.length) (c := By) ?_).2.2; exact (by (with_reducible repeat (first | apply Kd.V_alloc | apply Kd.V_drewN | apply Kd.V_drew)); exact (Kd.V_mono (Vf7 (g := Ae) (Kd.V_mono Ad.out (fun k_ hk => (⟨hk, hk.1⟩ : _ ∧ k_ ≠ Ae))) (fun _ hk => hk.2)) (fun _ h_ => h_.1)))); (case A1 => exact (Kd.V_reads' Ad.out).2.1); rintro e w136 ⟨rfl, hb⟩; refine ⟨_, rfl, ?_⟩; replace Aa := Am (Kd.V_below (by (with_reducible repeat (first | apply Kd.V_alloc | apply Kd.V_drewN | apply Kd.V_drew)); exact (Kd.V_mono (Vf7 (g := Ae) (Kd.V_mono Aa.out (fun k_ hk => (⟨hk, hk.1⟩ : _ ∧ k_ ≠ Ae))) (fun _ hk => hk.2)) (fun _ h_ => h_.1))) hb); replace Ad := Am (Kd.V_below (by (with_reducible repeat (first | apply Kd.V_alloc | apply Kd.V_drewN | apply Kd.V_drew)); exact (Kd.V_mono (Vf7 (g := Ae) (Kd.V_mono Ad.out (fun k_ hk => (⟨hk, hk.1⟩ : _ ∧ k_ ≠ Ae))) (fun _ hk => hk.2)) (fun _ h_ => h_.1))) hb); replace Ab := Am (blk_below (g := Ae) (kX0 Ab.out) hb); replace Ag := Am (blk_below (g := Ai) (kX1a Ag.out At.out) hb); replace HB := Am (below_step (pE2 HB.out As.out Av.out) hb); (try clear hb); (try clear hb2); (try clear hk); (try clear hi)))
         go_ret
         exact ⟨pX, pE2 HB.out As.out Av.out⟩
        subst c128
        have H1 : (garnerlaw23_RaftMay.l0 kj27 l0 (wrap64 (Af + 1)) t391 t392 t393 t396 t397 t398 t399) = some r := by rw [if_pos rfl] at H; exact H
        clear H
        have H := H1
        clear H1
        have H' := Am H
        clear H
        have hnb129 := At.out
        have hnc129 := Ap.out
        obtain ⟨hcz130_0, hcz130_1, hcz130_2, hcz130_3, hcz130_4, hcz130_5, hcz130_6⟩ := bc7 Ag.out
        obtain ⟨hfz130_0, hfz130_1, hfz130_2, hfz130_3, hfz130_4, hfz130_5, hfz130_6⟩ := bf7 Ag.out
        obtain ⟨hcz131_0, hcz131_1, hcz131_2, hcz131_3, hcz131_4, hcz131_5, hcz131_6⟩ := bc7 Ab.out
        obtain ⟨hfz131_0, hfz131_1, hfz131_2, hfz131_3, hfz131_4, hfz131_5, hfz131_6⟩ := bf7 Ab.out
        go_wp2_with (first | ((with_reducible refine gate_callee (f := 14) rfl ?_); refine goesL_ (some 88) rfl rfl Try.func14 (by kernel_rfl) rfl #[.agg #[.int .i64 t391, .int .i64 t392, .slice Ca t393.length By, .int .i64 t396, .int .i64 t397, .int .i64 t398, .int .i64 t399]] rfl pL ?_; (with_reducible refine (garnerref23_May.calls kj27 t391 t392 _ _ t393 t396 t397 t398 t399 true _ ?Az ?A1 A127.out).mono ?_); (case Az => refine (Kd.V_reads' (e := 46) (base := w.heap.size) (ok := fun k_ => (k_ ≠ Ae ∧ k_ ≠ Ai)) (n := t393.length) (c := By) ?_).2.2; exact (by (with_reducible repeat (first | apply Kd.V_alloc | apply Kd.V_drewN | apply Kd.V_drew)); exact (Kd.V_mono (Vf7 (g := Ae) (Kd.V_mono Ad.out (fun k_ hk => (⟨hk, hk.1⟩ : _ ∧ k_ ≠ Ae))) (fun _ hk => hk.2)) (fun _ h_ => h_.1)))); (case A1 => exact (Kd.V_reads' Ad.out).2.1); rintro e w132 ⟨rfl, hb⟩; refine ⟨_, rfl, ?_⟩; replace Aa := Am (Kd.V_below (by (with_reducible repeat (first | apply Kd.V_alloc | apply Kd.V_drewN | apply Kd.V_drew)); exact (Kd.V_mono (Vf7 (g := Ae) (Kd.V_mono Aa.out (fun k_ hk => (⟨hk, hk.1⟩ : _ ∧ k_ ≠ Ae))) (fun _ hk => hk.2)) (fun _ h_ => h_.1))) hb); replace Ad := Am (Kd.V_below (by (with_reducible repeat (first | apply Kd.V_alloc | apply Kd.V_drewN | apply Kd.V_drew)); exact (Kd.V_mono (Vf7 (g := Ae) (Kd.V_mono Ad.out (fun k_ hk => (⟨hk, hk.1⟩ : _ ∧ k_ ≠ Ae))) (fun _ hk => hk.2)) (fun _ h_ => h_.1))) hb); replace Ab := Am (blk_below (g := Ae) (kX0 Ab.out) hb); replace Ag := Am (blk_below (g := Ai) (kX1a Ag.out At.out) hb); replace HB := Am (below_step (pE2 HB.out As.out Av.out) hb); (try clear hb); (try clear hb2); (try clear hk); (try clear hi)))
        go_roundg kj27
        case measure => have := HK1.out; have := HK2.out; have := HJ27.out; omega
        case rel => exact ⟨(wrap64 (Af + 1)), (t391), (t392), (t393), (t396), (t397), (t398), (t399), (.slice Ca t393.length By), (by first | rfl | (simp; done) | (simp [*]; done)), H', ⟨by have := HK1.out; have := HK2.out; have := HJ27.out; omega⟩, ⟨by (with_reducible repeat (first | apply Kd.V_alloc | apply Kd.V_drewN | apply Kd.V_drew)); exact Kd.V_mono Ad.out (fun _ hk => hk.1)⟩, ⟨pK Ab.out⟩, ⟨pE2 HB.out As.out Av.out⟩⟩
       subst c36
       have H1 : ((raft_Get.f kj27 Aj Ak Ac Al An Ah Ao A8).bind fun bt404 => ((raft_Get.f kj27 t391 t392 t393 t396 t397 t398 t399 A8).bind fun bt418 => (if bt404.2.2.2.2.2.2.2.2.2.2 = 0 then (if bt418.2.2.2.2.2.2.2.2.2.2 = 0 then ((garnerref06_Same.f kj27 (([(⟨bt404.1, bt404.2.1, bt404.2.2.1, bt404.2.2.2.1, (⟨bt404.2.2.2.2.1, bt404.2.2.2.2.2.1, (⟨bt404.2.2.2.2.2.2.1, bt404.2.2.2.2.2.2.2.1, bt404.2.2.2.2.2.2.2.2.1, bt404.2.2.2.2.2.2.2.2.2.1⟩ : S42)⟩ : S44)⟩ : S46)] : List (S46))) (([(⟨bt418.1, bt418.2.1, bt418.2.2.1, bt418.2.2.2.1, (⟨bt418.2.2.2.2.1, bt418.2.2.2.2.2.1, (⟨bt418.2.2.2.2.2.2.1, bt418.2.2.2.2.2.2.2.1, bt418.2.2.2.2.2.2.2.2.1, bt418.2.2.2.2.2.2.2.2.2.1⟩ : S42)⟩ : S44)⟩ : S46)] : List (S46)))).bind fun t438 => (if t438 = true then (garnerlaw23_RaftMay.l1 kj27 l0 Af (wrap64 (A8 + 1)) Aj Ak Ac Al An Ah Ao t391 t392 t393 t396 t397 t398 t399) else (some false))) else (some false)) else (some false)))) = some r := by rw [if_pos rfl] at H; exact H
       clear H
       have H := H1
       clear H1
       replace H := Option.bind_eq_some_iff.mp H
       obtain ⟨⟨t404, t405, t406, t407, t408, t409, t412, t413, t414, t415, t416⟩, A370, H⟩ := H
       replace H : ((raft_Get.f kj27 t391 t392 t393 t396 t397 t398 t399 A8).bind fun bt418 => (if t416 = 0 then (if bt418.2.2.2.2.2.2.2.2.2.2 = 0 then ((garnerref06_Same.f kj27 (([(⟨t404, t405, t406, t407, (⟨t408, t409, (⟨t412, t413, t414, t415⟩ : S42)⟩ : S44)⟩ : S46)] : List (S46))) (([(⟨bt418.1, bt418.2.1, bt418.2.2.1, bt418.2.2.2.1, (⟨bt418.2.2.2.2.1, bt418.2.2.2.2.2.1, (⟨bt418.2.2.2.2.2.2.1, bt418.2.2.2.2.2.2.2.1, bt418.2.2.2.2.2.2.2.2.1, bt418.2.2.2.2.2.2.2.2.2.1⟩ : S42)⟩ : S44)⟩ : S46)] : List (S46)))).bind fun t438 => (if t438 = true then (garnerlaw23_RaftMay.l1 kj27 l0 Af (wrap64 (A8 + 1)) Aj Ak Ac Al An Ah Ao t391 t392 t393 t396 t397 t398 t399) else (some false))) else (some false)) else (some false))) = some r := H
       have A37 := Am A370
       clear A370
       replace H := Option.bind_eq_some_iff.mp H
       obtain ⟨⟨t418, t419, t420, t421, t422, t423, t426, t427, t428, t429, t430⟩, A380, H⟩ := H
       replace H : (if t416 = 0 then (if t430 = 0 then ((garnerref06_Same.f kj27 (([(⟨t404, t405, t406, t407, (⟨t408, t409, (⟨t412, t413, t414, t415⟩ : S42)⟩ : S44)⟩ : S46)] : List (S46))) (([(⟨t418, t419, t420, t421, (⟨t422, t423, (⟨t426, t427, t428, t429⟩ : S42)⟩ : S44)⟩ : S46)] : List (S46)))).bind fun t438 => (if t438 = true then (garnerlaw23_RaftMay.l1 kj27 l0 Af (wrap64 (A8 + 1)) Aj Ak Ac Al An Ah Ao t391 t392 t393 t396 t397 t398 t399) else (some false))) else (some false)) else (some false)) = some r := H
       have A38 := Am A380
       clear A380
       by_cases c39 : t416 = 0
       rotate_left
       ·rw [if_neg c39] at H
        have c39b0 : (t416 == 0) = false := beq_eq_false_iff_ne.mpr c39
        have c39b1 : (t416 != 0) = true := bne_iff_ne.mpr c39
        obtain rfl := Option.some.inj H
        have hnb111 := Ap.out
        have hnc111 := At.out
        obtain ⟨hcz112_0, hcz112_1, hcz112_2, hcz112_3, hcz112_4, hcz112_5, hcz112_6⟩ := bc7 Ab.out
        obtain ⟨hfz112_0, hfz112_1, hfz112_2, hfz112_3, hfz112_4, hfz112_5, hfz112_6⟩ := bf7 Ab.out
        go_wp2_with (first | ((with_reducible refine gate_callee (f := 12) rfl ?_); refine goesL_ (some 63) rfl rfl Try.func12 (by kernel_rfl) rfl #[.agg #[.int .i64 Aj, .int .i64 Ak, .slice Bw Ac.length Bx, .int .i64 Al, .int .i64 An, .int .i64 Ah, .int .i64 Ao], .int .i64 A8] rfl pL ?_; (with_reducible refine (raft_Get.calls kj27 Aj Ak _ _ Ac Al An Ah Ao A8 t404 t405 t406 t407 t408 t409 t412 t413 t414 t415 t416 _ ?Az ?A1 A37.out).mono ?_); (case Az => exact pC (Kd.V_reads' Aa.out).2.2); (case A1 => exact (Kd.V_reads' Aa.out).2.1); rintro e w113 ⟨v410, rfl, ho0, hb⟩; refine ⟨_, rfl, ?_⟩; replace Aa := Am (Kd.V_elder' (pV Aa.out) (Kd.R_base ho0) hb); replace Ad := Am (Kd.V_elder' (pV Ad.out) (Kd.R_base ho0) hb); have Ay := Am (Kd.R_lower ho0 (below_size (pE2 HB.out As.out Av.out))); replace Ab := kBa Ab hb; replace Ag := kBa Ag hb; replace HB := Am (below_step (pE2 HB.out As.out Av.out) hb); (try clear hb); (try clear hb2); (try clear hk); (try clear hi); (try clear ho0)) | ((with_reducible refine gate_dst (N := 8) rfl ?_); (try (refine gate_guard (by rfl) ?_; dsimp only)); refine box_event ?hg (N := 8) ?hd (cs := #[.int .i64 0, .int .i64 0, .int .i64 0, .string (⟨#[]⟩ : ByteArray), .bool false, .slice none 0 0, .int .i64 0, .int .i64 0, .int .i64 0, .int .u32 0]) (t := 46) ?hr ?_; (case hd => rfl); (case hg => rfl); (case hr => first | (go_simp; done) | (go_simp; rfl)); intro Aq hg w114 hbox hb; replace Aa := Am (Kd.V_below (Kd.V_elderB (pV Aa.out) Aq (Nat.le_of_eq hg.symm)) hb); replace Ad := Am (Kd.V_below (Kd.V_elderB (pV Ad.out) Aq (Nat.le_of_eq hg.symm)) hb); replace Ay := bRa Ay hb; have Au := Am (hbox); have Cr := Am ((by rw [hg]; exact (below_size (pE2 HB.out As.out Av.out)) : w.heap.size ≤ Aq)); replace HB := Am (below_step (pE2 HB.out As.out Av.out) hb); have A2 := Cr; have A5 := Am ((by rw [hg]; exact Nat.ne_of_lt (kL Ab.out) : Ae ≠ Aq)); have Bm := Am ((by rw [hg]; exact Nat.ne_of_gt (kL Ab.out) : Aq ≠ Ae)); replace Ab := kBa Ab hb; have A6 := Am ((by rw [hg]; exact Nat.ne_of_lt (kL Ag.out) : Ai ≠ Aq)); have Bn := Am ((by rw [hg]; exact Nat.ne_of_gt (kL Ag.out) : Aq ≠ Ai)); replace Ag := kBa Ag hb; clear hb hbox hg; have hnb115 := Bm.out; have hnc115 := A5.out; have hnb116 := Bn.out; have hnc116 := A6.out; obtain ⟨hcz117_0, hcz117_1, hcz117_2, hcz117_3, hcz117_4, hcz117_5, hcz117_6, hcz117_7, hcz117_8, hcz117_9⟩ := bc10 Au.out; obtain ⟨hfz117_0, hfz117_1, hfz117_2, hfz117_3, hfz117_4, hfz117_5, hfz117_6, hfz117_7, hfz117_8, hfz117_9⟩ := bf10 Au.out; obtain ⟨E4, E5, E6⟩ := Kd.R_slice Ay.out; subst E6; obtain ⟨hcz119_0, hcz119_1, hcz119_2, hcz119_3, hcz119_4, hcz119_5, hcz119_6⟩ := bc7 Ag.out; obtain ⟨hfz119_0, hfz119_1, hfz119_2, hfz119_3, hfz119_4, hfz119_5, hfz119_6⟩ := bf7 Ag.out) | ((with_reducible refine gate_callee (f := 12) rfl ?_); refine goesL_ (some 69) rfl rfl Try.func12 (by kernel_rfl) rfl #[.agg #[.int .i64 t391, .int .i64 t392, .slice Ca t393.length By, .int .i64 t396, .int .i64 t397, .int .i64 t398, .int .i64 t399], .int .i64 A8] rfl pL ?_; (with_reducible refine (raft_Get.calls kj27 t391 t392 _ _ t393 t396 t397 t398 t399 A8 t418 t419 t420 t421 t422 t423 t426 t427 t428 t429 t430 _ ?Az ?A1 A38.out).mono ?_); (case Az => refine (Kd.V_reads' (e := 46) (base := w.heap.size) (ok := fun k_ => (((k_ ≠ Ae ∧ k_ ≠ Ai) ∧ some k_ ≠ (.slice E4 t409.length E5 : Value).ownBlock) ∧ k_ ≠ Aq)) (n := t393.length) (c := By) ?_).2.2; exact (by (with_reducible repeat (first | apply Kd.V_alloc | apply Kd.V_drewN | apply Kd.V_drew)); exact (Kd.V_mono (Vf10 (g := Aq) (Kd.V_mono Ad.out (fun k_ hk => (⟨hk, hk.2⟩ : _ ∧ k_ ≠ Aq))) (fun _ hk => hk.2)) (fun _ h_ => h_.1)))); (case A1 => exact (Kd.V_reads' Ad.out).2.1); rintro e w120 ⟨v424, rfl, ho0, hb⟩; refine ⟨_, rfl, ?_⟩; replace Aa := Am (Kd.V_elder' (by (with_reducible repeat (first | apply Kd.V_alloc | apply Kd.V_drewN | apply Kd.V_drew)); exact (Kd.V_mono (Vf10 (g := Aq) (Kd.V_mono Aa.out (fun k_ hk => (⟨hk, hk.2⟩ : _ ∧ k_ ≠ Aq))) (fun _ hk => hk.2)) (fun _ h_ => h_.1))) (Kd.R_base ho0) hb); replace Ad := Am (Kd.V_elder' (by (with_reducible repeat (first | apply Kd.V_alloc | apply Kd.V_drewN | apply Kd.V_drew)); exact (Kd.V_mono (Vf10 (g := Aq) (Kd.V_mono Ad.out (fun k_ hk => (⟨hk, hk.2⟩ : _ ∧ k_ ≠ Aq))) (fun _ hk => hk.2)) (fun _ h_ => h_.1))) (Kd.R_base ho0) hb); have A4 := Am (Kd.R_lower (Kd.R_new' ho0 (Kd.R_lt (by (with_reducible repeat (first | apply Kd.R_alloc | apply Kd.R_drewN | apply Kd.R_drew)); exact (Kd.R_mono (Rf10 (g := Aq) (Kd.R_types Ay.out Au.out (by decide)) (fun _ hk => hk.2)) (fun _ h_ => h_.1))))) (below_size (pE3 HB.out As.out Av.out A2.out))); replace Ay := Am (Kd.R_elder' (by (with_reducible repeat (first | apply Kd.R_alloc | apply Kd.R_drewN | apply Kd.R_drew)); exact (Kd.R_mono (Rf10 (g := Aq) (Kd.R_types Ay.out Au.out (by decide)) (fun _ hk => hk.2)) (fun _ h_ => h_.1))) (Kd.R_base ho0) hb); replace Ab := Am (blk_below (g := Ae) (kX1a Ab.out A5.out) hb); replace Ag := Am (blk_below (g := Ai) (kX1a Ag.out A6.out) hb); replace Au := Am (blk_below (g := Aq) (kX0 Au.out) hb); replace HB := Am (below_step (pE3 HB.out As.out Av.out A2.out) hb); (try clear hb); (try clear hb2); (try clear hk); (try clear hi); (try clear ho0)) | ((with_reducible refine gate_dst (N := 10) rfl ?_); (try (refine gate_guard (by rfl) ?_; dsimp only)); refine box_event ?hg (N := 10) ?hd (cs := #[.int .i64 0, .int .i64 0, .int .i64 0, .string (⟨#[]⟩ : ByteArray), .bool false, .slice none 0 0, .int .i64 0, .int .i64 0, .int .i64 0, .int .u32 0]) (t := 46) ?hr ?_; (case hd => rfl); (case hg => rfl); (case hr => first | (go_simp; done) | (go_simp; rfl)); intro Ar hg w121 hbox hb; replace Aa := Am (Kd.V_below (Kd.V_elderB (pV Aa.out) Ar (Nat.le_of_eq hg.symm)) hb); replace Ad := Am (Kd.V_below (Kd.V_elderB (pV Ad.out) Ar (Nat.le_of_eq hg.symm)) hb); replace Ay := bRa Ay hb; replace A4 := bRa A4 hb; have Ax := Am (hbox); have Cs := Am ((by rw [hg]; exact (below_size (pE3 HB.out As.out Av.out A2.out)) : w.heap.size ≤ Ar)); replace HB := Am (below_step (pE3 HB.out As.out Av.out A2.out) hb); have Bl := Cs; have Bh := Am ((by rw [hg]; exact Nat.ne_of_lt (kL Ab.out) : Ae ≠ Ar)); have Bo := Am ((by rw [hg]; exact Nat.ne_of_gt (kL Ab.out) : Ar ≠ Ae)); replace Ab := kBa Ab hb; have Bi := Am ((by rw [hg]; exact Nat.ne_of_lt (kL Ag.out) : Ai ≠ Ar)); have Bp := Am ((by rw [hg]; exact Nat.ne_of_gt (kL Ag.out) : Ar ≠ Ai)); replace Ag := kBa Ag hb; have Bj := Am ((by rw [hg]; exact Nat.ne_of_lt (kL Au.out) : Aq ≠ Ar)); have Bq := Am ((by rw [hg]; exact Nat.ne_of_gt (kL Au.out) : Ar ≠ Aq)); replace Au := kBa Au hb; clear hb hbox hg; have hnb122 := Bo.out; have hnc122 := Bh.out; have hnb123 := Bp.out; have hnc123 := Bi.out; have hnb124 := Bq.out; have hnc124 := Bj.out; obtain ⟨hcz125_0, hcz125_1, hcz125_2, hcz125_3, hcz125_4, hcz125_5, hcz125_6, hcz125_7, hcz125_8, hcz125_9⟩ := bc10 Ax.out; obtain ⟨hfz125_0, hfz125_1, hfz125_2, hfz125_3, hfz125_4, hfz125_5, hfz125_6, hfz125_7, hfz125_8, hfz125_9⟩ := bf10 Ax.out; obtain ⟨Ao126, co126, E7⟩ := Kd.R_slice A4.out; subst E7))
        go_ret
        exact ⟨pX, pE4 HB.out As.out Av.out A2.out Bl.out⟩
       rw [if_pos c39] at H
       have c39b0 : (t416 == 0) = true := beq_iff_eq.mpr c39
       have c39b1 : (t416 != 0) = false := bne_eq_false_iff_eq.mpr c39
       clear c39
       by_cases c40 : t430 = 0
       rotate_left
       ·rw [if_neg c40] at H
        have c40b0 : (t430 == 0) = false := beq_eq_false_iff_ne.mpr c40
        have c40b1 : (t430 != 0) = true := bne_iff_ne.mpr c40
        obtain rfl := Option.some.inj H
        have hnb95 := Ap.out
        have hnc95 := At.out
        obtain ⟨hcz96_0, hcz96_1, hcz96_2, hcz96_3, hcz96_4, hcz96_5, hcz96_6⟩ := bc7 Ab.out
        obtain ⟨hfz96_0, hfz96_1, hfz96_2, hfz96_3, hfz96_4, hfz96_5, hfz96_6⟩ := bf7 Ab.out
        go_wp2_with (first | ((with_reducible refine gate_callee (f := 12) rfl ?_); refine goesL_ (some 63) rfl rfl Try.func12 (by kernel_rfl) rfl #[.agg #[.int .i64 Aj, .int .i64 Ak, .slice Bw Ac.length Bx, .int .i64 Al, .int .i64 An, .int .i64 Ah, .int .i64 Ao], .int .i64 A8] rfl pL ?_; (with_reducible refine (raft_Get.calls kj27 Aj Ak _ _ Ac Al An Ah Ao A8 t404 t405 t406 t407 t408 t409 t412 t413 t414 t415 t416 _ ?Az ?A1 A37.out).mono ?_); (case Az => exact pC (Kd.V_reads' Aa.out).2.2); (case A1 => exact (Kd.V_reads' Aa.out).2.1); rintro e w97 ⟨v410, rfl, ho0, hb⟩; refine ⟨_, rfl, ?_⟩; replace Aa := Am (Kd.V_elder' (pV Aa.out) (Kd.R_base ho0) hb); replace Ad := Am (Kd.V_elder' (pV Ad.out) (Kd.R_base ho0) hb); have Ay := Am (Kd.R_lower ho0 (below_size (pE2 HB.out As.out Av.out))); replace Ab := kBa Ab hb; replace Ag := kBa Ag hb; replace HB := Am (below_step (pE2 HB.out As.out Av.out) hb); (try clear hb); (try clear hb2); (try clear hk); (try clear hi); (try clear ho0)) | ((with_reducible refine gate_dst (N := 8) rfl ?_); (try (refine gate_guard (by rfl) ?_; dsimp only)); refine box_event ?hg (N := 8) ?hd (cs := #[.int .i64 0, .int .i64 0, .int .i64 0, .string (⟨#[]⟩ : ByteArray), .bool false, .slice none 0 0, .int .i64 0, .int .i64 0, .int .i64 0, .int .u32 0]) (t := 46) ?hr ?_; (case hd => rfl); (case hg => rfl); (case hr => first | (go_simp; done) | (go_simp; rfl)); intro Aq hg w98 hbox hb; replace Aa := Am (Kd.V_below (Kd.V_elderB (pV Aa.out) Aq (Nat.le_of_eq hg.symm)) hb); replace Ad := Am (Kd.V_below (Kd.V_elderB (pV Ad.out) Aq (Nat.le_of_eq hg.symm)) hb); replace Ay := bRa Ay hb; have Au := Am (hbox); have Cr := Am ((by rw [hg]; exact (below_size (pE2 HB.out As.out Av.out)) : w.heap.size ≤ Aq)); replace HB := Am (below_step (pE2 HB.out As.out Av.out) hb); have A2 := Cr; have A5 := Am ((by rw [hg]; exact Nat.ne_of_lt (kL Ab.out) : Ae ≠ Aq)); have Bm := Am ((by rw [hg]; exact Nat.ne_of_gt (kL Ab.out) : Aq ≠ Ae)); replace Ab := kBa Ab hb; have A6 := Am ((by rw [hg]; exact Nat.ne_of_lt (kL Ag.out) : Ai ≠ Aq)); have Bn := Am ((by rw [hg]; exact Nat.ne_of_gt (kL Ag.out) : Aq ≠ Ai)); replace Ag := kBa Ag hb; clear hb hbox hg; have hnb99 := Bm.out; have hnc99 := A5.out; have hnb100 := Bn.out; have hnc100 := A6.out; obtain ⟨hcz101_0, hcz101_1, hcz101_2, hcz101_3, hcz101_4, hcz101_5, hcz101_6, hcz101_7, hcz101_8, hcz101_9⟩ := bc10 Au.out; obtain ⟨hfz101_0, hfz101_1, hfz101_2, hfz101_3, hfz101_4, hfz101_5, hfz101_6, hfz101_7, hfz101_8, hfz101_9⟩ := bf10 Au.out; obtain ⟨E0, E1, E2⟩ := Kd.R_slice Ay.out; subst E2; obtain ⟨hcz103_0, hcz103_1, hcz103_2, hcz103_3, hcz103_4, hcz103_5, hcz103_6⟩ := bc7 Ag.out; obtain ⟨hfz103_0, hfz103_1, hfz103_2, hfz103_3, hfz103_4, hfz103_5, hfz103_6⟩ := bf7 Ag.out) | ((with_reducible refine gate_callee (f := 12) rfl ?_); refine goesL_ (some 69) rfl rfl Try.func12 (by kernel_rfl) rfl #[.agg #[.int .i64 t391, .int .i64 t392, .slice Ca t393.length By, .int .i64 t396, .int .i64 t397, .int .i64 t398, .int .i64 t399], .int .i64 A8] rfl pL ?_; (with_reducible refine (raft_Get.calls kj27 t391 t392 _ _ t393 t396 t397 t398 t399 A8 t418 t419 t420 t421 t422 t423 t426 t427 t428 t429 t430 _ ?Az ?A1 A38.out).mono ?_); (case Az => refine (Kd.V_reads' (e := 46) (base := w.heap.size) (ok := fun k_ => (((k_ ≠ Ae ∧ k_ ≠ Ai) ∧ some k_ ≠ (.slice E0 t409.length E1 : Value).ownBlock) ∧ k_ ≠ Aq)) (n := t393.length) (c := By) ?_).2.2; exact (by (with_reducible repeat (first | apply Kd.V_alloc | apply Kd.V_drewN | apply Kd.V_drew)); exact (Kd.V_mono (Vf10 (g := Aq) (Kd.V_mono Ad.out (fun k_ hk => (⟨hk, hk.2⟩ : _ ∧ k_ ≠ Aq))) (fun _ hk => hk.2)) (fun _ h_ => h_.1)))); (case A1 => exact (Kd.V_reads' Ad.out).2.1); rintro e w104 ⟨v424, rfl, ho0, hb⟩; refine ⟨_, rfl, ?_⟩; replace Aa := Am (Kd.V_elder' (by (with_reducible repeat (first | apply Kd.V_alloc | apply Kd.V_drewN | apply Kd.V_drew)); exact (Kd.V_mono (Vf10 (g := Aq) (Kd.V_mono Aa.out (fun k_ hk => (⟨hk, hk.2⟩ : _ ∧ k_ ≠ Aq))) (fun _ hk => hk.2)) (fun _ h_ => h_.1))) (Kd.R_base ho0) hb); replace Ad := Am (Kd.V_elder' (by (with_reducible repeat (first | apply Kd.V_alloc | apply Kd.V_drewN | apply Kd.V_drew)); exact (Kd.V_mono (Vf10 (g := Aq) (Kd.V_mono Ad.out (fun k_ hk => (⟨hk, hk.2⟩ : _ ∧ k_ ≠ Aq))) (fun _ hk => hk.2)) (fun _ h_ => h_.1))) (Kd.R_base ho0) hb); have A4 := Am (Kd.R_lower (Kd.R_new' ho0 (Kd.R_lt (by (with_reducible repeat (first | apply Kd.R_alloc | apply Kd.R_drewN | apply Kd.R_drew)); exact (Kd.R_mono (Rf10 (g := Aq) (Kd.R_types Ay.out Au.out (by decide)) (fun _ hk => hk.2)) (fun _ h_ => h_.1))))) (below_size (pE3 HB.out As.out Av.out A2.out))); replace Ay := Am (Kd.R_elder' (by (with_reducible repeat (first | apply Kd.R_alloc | apply Kd.R_drewN | apply Kd.R_drew)); exact (Kd.R_mono (Rf10 (g := Aq) (Kd.R_types Ay.out Au.out (by decide)) (fun _ hk => hk.2)) (fun _ h_ => h_.1))) (Kd.R_base ho0) hb); replace Ab := Am (blk_below (g := Ae) (kX1a Ab.out A5.out) hb); replace Ag := Am (blk_below (g := Ai) (kX1a Ag.out A6.out) hb); replace Au := Am (blk_below (g := Aq) (kX0 Au.out) hb); replace HB := Am (below_step (pE3 HB.out As.out Av.out A2.out) hb); (try clear hb); (try clear hb2); (try clear hk); (try clear hi); (try clear ho0)) | ((with_reducible refine gate_dst (N := 10) rfl ?_); (try (refine gate_guard (by rfl) ?_; dsimp only)); refine box_event ?hg (N := 10) ?hd (cs := #[.int .i64 0, .int .i64 0, .int .i64 0, .string (⟨#[]⟩ : ByteArray), .bool false, .slice none 0 0, .int .i64 0, .int .i64 0, .int .i64 0, .int .u32 0]) (t := 46) ?hr ?_; (case hd => rfl); (case hg => rfl); (case hr => first | (go_simp; done) | (go_simp; rfl)); intro Ar hg w105 hbox hb; replace Aa := Am (Kd.V_below (Kd.V_elderB (pV Aa.out) Ar (Nat.le_of_eq hg.symm)) hb); replace Ad := Am (Kd.V_below (Kd.V_elderB (pV Ad.out) Ar (Nat.le_of_eq hg.symm)) hb); replace Ay := bRa Ay hb; replace A4 := bRa A4 hb; have Ax := Am (hbox); have Cs := Am ((by rw [hg]; exact (below_size (pE3 HB.out As.out Av.out A2.out)) : w.heap.size ≤ Ar)); replace HB := Am (below_step (pE3 HB.out As.out Av.out A2.out) hb); have Bl := Cs; have Bh := Am ((by rw [hg]; exact Nat.ne_of_lt (kL Ab.out) : Ae ≠ Ar)); have Bo := Am ((by rw [hg]; exact Nat.ne_of_gt (kL Ab.out) : Ar ≠ Ae)); replace Ab := kBa Ab hb; have Bi := Am ((by rw [hg]; exact Nat.ne_of_lt (kL Ag.out) : Ai ≠ Ar)); have Bp := Am ((by rw [hg]; exact Nat.ne_of_gt (kL Ag.out) : Ar ≠ Ai)); replace Ag := kBa Ag hb; have Bj := Am ((by rw [hg]; exact Nat.ne_of_lt (kL Au.out) : Aq ≠ Ar)); have Bq := Am ((by rw [hg]; exact Nat.ne_of_gt (kL Au.out) : Ar ≠ Aq)); replace Au := kBa Au hb; clear hb hbox hg; have hnb106 := Bo.out; have hnc106 := Bh.out; have hnb107 := Bp.out; have hnc107 := Bi.out; have hnb108 := Bq.out; have hnc108 := Bj.out; obtain ⟨hcz109_0, hcz109_1, hcz109_2, hcz109_3, hcz109_4, hcz109_5, hcz109_6, hcz109_7, hcz109_8, hcz109_9⟩ := bc10 Ax.out; obtain ⟨hfz109_0, hfz109_1, hfz109_2, hfz109_3, hfz109_4, hfz109_5, hfz109_6, hfz109_7, hfz109_8, hfz109_9⟩ := bf10 Ax.out; obtain ⟨Ao110, co110, E3⟩ := Kd.R_slice A4.out; subst E3))
        go_ret
        exact ⟨pX, pE4 HB.out As.out Av.out A2.out Bl.out⟩
       rw [if_pos c40] at H
       have c40b0 : (t430 == 0) = true := beq_iff_eq.mpr c40
       have c40b1 : (t430 != 0) = false := bne_eq_false_iff_eq.mpr c40
       clear c40
       obtain ⟨y432, hy432⟩ : ∃ y_ : List (S46), y_ = (([(⟨t404, t405, t406, t407, (⟨t408, t409, (⟨t412, t413, t414, t415⟩ : S42)⟩ : S44)⟩ : S46)] : List (S46))) := ⟨_, rfl⟩
       replace H : ((garnerref06_Same.f kj27 y432 (([(⟨t418, t419, t420, t421, (⟨t422, t423, (⟨t426, t427, t428, t429⟩ : S42)⟩ : S44)⟩ : S46)] : List (S46)))).bind fun t438 => (if t438 = true then (garnerlaw23_RaftMay.l1 kj27 l0 Af (wrap64 (A8 + 1)) Aj Ak Ac Al An Ah Ao t391 t392 t393 t396 t397 t398 t399) else (some false))) = some r := by first | (rw [hy432]; with_reducible exact H) | (have H2_ := (Option.bind_some _ _).symm.trans H; rw [hy432]; with_reducible exact H2_) | (have H2_ := (Option.bind_some _ _).symm.trans H; with_reducible exact H2_) | with_reducible exact H | (rw [hy432]; exact H) | exact H
       have Ny432 := Am hy432
       clear hy432
       obtain ⟨y435, hy435⟩ : ∃ y_ : List (S46), y_ = (([(⟨t418, t419, t420, t421, (⟨t422, t423, (⟨t426, t427, t428, t429⟩ : S42)⟩ : S44)⟩ : S46)] : List (S46))) := ⟨_, rfl⟩
       replace H : ((garnerref06_Same.f kj27 y432 y435).bind fun t438 => (if t438 = true then (garnerlaw23_RaftMay.l1 kj27 l0 Af (wrap64 (A8 + 1)) Aj Ak Ac Al An Ah Ao t391 t392 t393 t396 t397 t398 t399) else (some false))) = some r := by first | (rw [hy435]; with_reducible exact H) | (have H2_ := (Option.bind_some _ _).symm.trans H; rw [hy435]; with_reducible exact H2_) | (have H2_ := (Option.bind_some _ _).symm.trans H; with_reducible exact H2_) | with_reducible exact H | (rw [hy435]; exact H) | exact H
       have Ny435 := Am hy435
       clear hy435
       replace H := Option.bind_eq_some_iff.mp H
       obtain ⟨t438, A410, H⟩ := H
       replace H : (if t438 = true then (garnerlaw23_RaftMay.l1 kj27 l0 Af (wrap64 (A8 + 1)) Aj Ak Ac Al An Ah Ao t391 t392 t393 t396 t397 t398 t399) else (some false)) = some r := H
       have A41 := Am A410
       clear A410
       by_cases c42 : t438 = true
       rotate_left
       ·replace c42 := Bool.eq_false_iff.mpr c42
        subst c42
        have H1 : (some false) = some r := by rw [if_neg (show ¬ (false = true) by decide)] at H; exact H
        clear H
        have H := H1
        clear H1
        obtain rfl := Option.some.inj H
        have hnb69 := Ap.out
        have hnc69 := At.out
        obtain ⟨hcz70_0, hcz70_1, hcz70_2, hcz70_3, hcz70_4, hcz70_5, hcz70_6⟩ := bc7 Ab.out
        obtain ⟨hfz70_0, hfz70_1, hfz70_2, hfz70_3, hfz70_4, hfz70_5, hfz70_6⟩ := bf7 Ab.out
        go_wp2_with (first | ((with_reducible refine gate_callee (f := 12) rfl ?_); refine goesL_ (some 63) rfl rfl Try.func12 (by kernel_rfl) rfl #[.agg #[.int .i64 Aj, .int .i64 Ak, .slice Bw Ac.length Bx, .int .i64 Al, .int .i64 An, .int .i64 Ah, .int .i64 Ao], .int .i64 A8] rfl pL ?_; (with_reducible refine (raft_Get.calls kj27 Aj Ak _ _ Ac Al An Ah Ao A8 t404 t405 t406 t407 t408 t409 t412 t413 t414 t415 t416 _ ?Az ?A1 A37.out).mono ?_); (case Az => exact pC (Kd.V_reads' Aa.out).2.2); (case A1 => exact (Kd.V_reads' Aa.out).2.1); rintro e w71 ⟨v410, rfl, ho0, hb⟩; refine ⟨_, rfl, ?_⟩; replace Aa := Am (Kd.V_elder' (pV Aa.out) (Kd.R_base ho0) hb); replace Ad := Am (Kd.V_elder' (pV Ad.out) (Kd.R_base ho0) hb); have Ay := Am (Kd.R_lower ho0 (below_size (pE2 HB.out As.out Av.out))); replace Ab := kBa Ab hb; replace Ag := kBa Ag hb; replace HB := Am (below_step (pE2 HB.out As.out Av.out) hb); (try clear hb); (try clear hb2); (try clear hk); (try clear hi); (try clear ho0)) | ((with_reducible refine gate_dst (N := 8) rfl ?_); (try (refine gate_guard (by rfl) ?_; dsimp only)); refine box_event ?hg (N := 8) ?hd (cs := #[.int .i64 0, .int .i64 0, .int .i64 0, .string (⟨#[]⟩ : ByteArray), .bool false, .slice none 0 0, .int .i64 0, .int .i64 0, .int .i64 0, .int .u32 0]) (t := 46) ?hr ?_; (case hd => rfl); (case hg => rfl); (case hr => first | (go_simp; done) | (go_simp; rfl)); intro Aq hg w72 hbox hb; replace Aa := Am (Kd.V_below (Kd.V_elderB (pV Aa.out) Aq (Nat.le_of_eq hg.symm)) hb); replace Ad := Am (Kd.V_below (Kd.V_elderB (pV Ad.out) Aq (Nat.le_of_eq hg.symm)) hb); replace Ay := bRa Ay hb; have Au := Am (hbox); have Cr := Am ((by rw [hg]; exact (below_size (pE2 HB.out As.out Av.out)) : w.heap.size ≤ Aq)); replace HB := Am (below_step (pE2 HB.out As.out Av.out) hb); have A2 := Cr; have A5 := Am ((by rw [hg]; exact Nat.ne_of_lt (kL Ab.out) : Ae ≠ Aq)); have Bm := Am ((by rw [hg]; exact Nat.ne_of_gt (kL Ab.out) : Aq ≠ Ae)); replace Ab := kBa Ab hb; have A6 := Am ((by rw [hg]; exact Nat.ne_of_lt (kL Ag.out) : Ai ≠ Aq)); have Bn := Am ((by rw [hg]; exact Nat.ne_of_gt (kL Ag.out) : Aq ≠ Ai)); replace Ag := kBa Ag hb; clear hb hbox hg; have hnb73 := Bm.out; have hnc73 := A5.out; have hnb74 := Bn.out; have hnc74 := A6.out; obtain ⟨hcz75_0, hcz75_1, hcz75_2, hcz75_3, hcz75_4, hcz75_5, hcz75_6, hcz75_7, hcz75_8, hcz75_9⟩ := bc10 Au.out; obtain ⟨hfz75_0, hfz75_1, hfz75_2, hfz75_3, hfz75_4, hfz75_5, hfz75_6, hfz75_7, hfz75_8, hfz75_9⟩ := bf10 Au.out; obtain ⟨Cx, Cy, Fe⟩ := Kd.R_slice Ay.out; subst Fe; obtain ⟨hcz77_0, hcz77_1, hcz77_2, hcz77_3, hcz77_4, hcz77_5, hcz77_6⟩ := bc7 Ag.out; obtain ⟨hfz77_0, hfz77_1, hfz77_2, hfz77_3, hfz77_4, hfz77_5, hfz77_6⟩ := bf7 Ag.out) | ((with_reducible refine gate_callee (f := 12) rfl ?_); refine goesL_ (some 69) rfl rfl Try.func12 (by kernel_rfl) rfl #[.agg #[.int .i64 t391, .int .i64 t392, .slice Ca t393.length By, .int .i64 t396, .int .i64 t397, .int .i64 t398, .int .i64 t399], .int .i64 A8] rfl pL ?_; (with_reducible refine (raft_Get.calls kj27 t391 t392 _ _ t393 t396 t397 t398 t399 A8 t418 t419 t420 t421 t422 t423 t426 t427 t428 t429 t430 _ ?Az ?A1 A38.out).mono ?_); (case Az => refine (Kd.V_reads' (e := 46) (base := w.heap.size) (ok := fun k_ => (((k_ ≠ Ae ∧ k_ ≠ Ai) ∧ some k_ ≠ (.slice Cx t409.length Cy : Value).ownBlock) ∧ k_ ≠ Aq)) (n := t393.length) (c := By) ?_).2.2; exact (by (with_reducible repeat (first | apply Kd.V_alloc | apply Kd.V_drewN | apply Kd.V_drew)); exact (Kd.V_mono (Vf10 (g := Aq) (Kd.V_mono Ad.out (fun k_ hk => (⟨hk, hk.2⟩ : _ ∧ k_ ≠ Aq))) (fun _ hk => hk.2)) (fun _ h_ => h_.1)))); (case A1 => exact (Kd.V_reads' Ad.out).2.1); rintro e w78 ⟨v424, rfl, ho0, hb⟩; refine ⟨_, rfl, ?_⟩; replace Aa := Am (Kd.V_elder' (by (with_reducible repeat (first | apply Kd.V_alloc | apply Kd.V_drewN | apply Kd.V_drew)); exact (Kd.V_mono (Vf10 (g := Aq) (Kd.V_mono Aa.out (fun k_ hk => (⟨hk, hk.2⟩ : _ ∧ k_ ≠ Aq))) (fun _ hk => hk.2)) (fun _ h_ => h_.1))) (Kd.R_base ho0) hb); replace Ad := Am (Kd.V_elder' (by (with_reducible repeat (first | apply Kd.V_alloc | apply Kd.V_drewN | apply Kd.V_drew)); exact (Kd.V_mono (Vf10 (g := Aq) (Kd.V_mono Ad.out (fun k_ hk => (⟨hk, hk.2⟩ : _ ∧ k_ ≠ Aq))) (fun _ hk => hk.2)) (fun _ h_ => h_.1))) (Kd.R_base ho0) hb); have A4 := Am (Kd.R_lower (Kd.R_new' ho0 (Kd.R_lt (by (with_reducible repeat (first | apply Kd.R_alloc | apply Kd.R_drewN | apply Kd.R_drew)); exact (Kd.R_mono (Rf10 (g := Aq) (Kd.R_types Ay.out Au.out (by decide)) (fun _ hk => hk.2)) (fun _ h_ => h_.1))))) (below_size (pE3 HB.out As.out Av.out A2.out))); replace Ay := Am (Kd.R_elder' (by (with_reducible repeat (first | apply Kd.R_alloc | apply Kd.R_drewN | apply Kd.R_drew)); exact (Kd.R_mono (Rf10 (g := Aq) (Kd.R_types Ay.out Au.out (by decide)) (fun _ hk => hk.2)) (fun _ h_ => h_.1))) (Kd.R_base ho0) hb); replace Ab := Am (blk_below (g := Ae) (kX1a Ab.out A5.out) hb); replace Ag := Am (blk_below (g := Ai) (kX1a Ag.out A6.out) hb); replace Au := Am (blk_below (g := Aq) (kX0 Au.out) hb); replace HB := Am (below_step (pE3 HB.out As.out Av.out A2.out) hb); (try clear hb); (try clear hb2); (try clear hk); (try clear hi); (try clear ho0)) | ((with_reducible refine gate_dst (N := 10) rfl ?_); (try (refine gate_guard (by rfl) ?_; dsimp only)); refine box_event ?hg (N := 10) ?hd (cs := #[.int .i64 0, .int .i64 0, .int .i64 0, .string (⟨#[]⟩ : ByteArray), .bool false, .slice none 0 0, .int .i64 0, .int .i64 0, .int .i64 0, .int .u32 0]) (t := 46) ?hr ?_; (case hd => rfl); (case hg => rfl); (case hr => first | (go_simp; done) | (go_simp; rfl)); intro Ar hg w79 hbox hb; replace Aa := Am (Kd.V_below (Kd.V_elderB (pV Aa.out) Ar (Nat.le_of_eq hg.symm)) hb); replace Ad := Am (Kd.V_below (Kd.V_elderB (pV Ad.out) Ar (Nat.le_of_eq hg.symm)) hb); replace Ay := bRa Ay hb; replace A4 := bRa A4 hb; have Ax := Am (hbox); have Cs := Am ((by rw [hg]; exact (below_size (pE3 HB.out As.out Av.out A2.out)) : w.heap.size ≤ Ar)); replace HB := Am (below_step (pE3 HB.out As.out Av.out A2.out) hb); have Bl := Cs; have Bh := Am ((by rw [hg]; exact Nat.ne_of_lt (kL Ab.out) : Ae ≠ Ar)); have Bo := Am ((by rw [hg]; exact Nat.ne_of_gt (kL Ab.out) : Ar ≠ Ae)); replace Ab := kBa Ab hb; have Bi := Am ((by rw [hg]; exact Nat.ne_of_lt (kL Ag.out) : Ai ≠ Ar)); have Bp := Am ((by rw [hg]; exact Nat.ne_of_gt (kL Ag.out) : Ar ≠ Ai)); replace Ag := kBa Ag hb; have Bj := Am ((by rw [hg]; exact Nat.ne_of_lt (kL Au.out) : Aq ≠ Ar)); have Bq := Am ((by rw [hg]; exact Nat.ne_of_gt (kL Au.out) : Ar ≠ Aq)); replace Au := kBa Au hb; clear hb hbox hg; have hnb80 := Bo.out; have hnc80 := Bh.out; have hnb81 := Bp.out; have hnc81 := Bi.out; have hnb82 := Bq.out; have hnc82 := Bj.out; obtain ⟨hcz83_0, hcz83_1, hcz83_2, hcz83_3, hcz83_4, hcz83_5, hcz83_6, hcz83_7, hcz83_8, hcz83_9⟩ := bc10 Ax.out; obtain ⟨hfz83_0, hfz83_1, hfz83_2, hfz83_3, hfz83_4, hfz83_5, hfz83_6, hfz83_7, hfz83_8, hfz83_9⟩ := bf10 Ax.out; obtain ⟨Ci, Cj, Ff⟩ := Kd.R_slice A4.out; subst Ff) | ((with_reducible refine gate_store (t := 46) (p := 10) rfl ?_); refine store_event (t := 46) (p := 10) (v := ?vo_w85) (w1 := ((((((((((w79.setCell ⟨Ar, 0, none⟩ (.int .i64 t418)).setCell ⟨Ar, 1, none⟩ (.int .i64 t419)).setCell ⟨Ar, 2, none⟩ (.int .i64 t420)).setCell ⟨Ar, 3, none⟩ (.string t421)).setCell ⟨Ar, 4, none⟩ (.bool t422)).setCell ⟨Ar, 5, none⟩ (.slice Ci t423.length Cj)).setCell ⟨Ar, 6, none⟩ (.int .i64 t426)).setCell ⟨Ar, 7, none⟩ (.int .i64 t427)).setCell ⟨Ar, 8, none⟩ (.int .i64 t428)).setCell ⟨Ar, 9, none⟩ (.int .u32 t429))) ?hg ?ho ?hn ?hr ?_; (case ho => rfl); (case hg => rfl); (case hn => rfl); (case hr => first | (go_simp; done) | (go_simp; rfl)); intro w85 hw; replace Aa : Aside0 (Kd.V k46 46 w85 w.heap.size (fun k_ => some k_ ≠ (.slice Cx t409.length Cy : Value).ownBlock ∧ some k_ ≠ (.slice Ci t423.length Cj : Value).ownBlock ∧ k_ ≠ Ae ∧ k_ ≠ Ai ∧ k_ ≠ Aq ∧ k_ ≠ Ar) (.slice Bw Ac.length Bx) Ac) := ⟨(by rw [hw]; exact (by (with_reducible repeat (first | apply Kd.V_alloc | apply Kd.V_drewN | apply Kd.V_drew)); exact Kd.V_mono (Vf10 (g := Ar) (Kd.V_mono Aa.out (fun k_ hk => (⟨hk, hk.2⟩ : _ ∧ k_ ≠ Ar))) (fun _ hk => hk.2)) (fun _ hk => ⟨hk.1.1.1.1.2, ⟨hk.1.1.2, ⟨hk.1.1.1.1.1.1, ⟨hk.1.1.1.1.1.2, ⟨hk.1.1.1.2, hk.1.2⟩⟩⟩⟩⟩)))⟩; replace Ad : Aside0 (Kd.V k46 46 w85 w.heap.size (fun k_ => some k_ ≠ (.slice Cx t409.length Cy : Value).ownBlock ∧ some k_ ≠ (.slice Ci t423.length Cj : Value).ownBlock ∧ k_ ≠ Ae ∧ k_ ≠ Ai ∧ k_ ≠ Aq ∧ k_ ≠ Ar) (.slice Ca t393.length By) t393) := ⟨(by rw [hw]; exact (by (with_reducible repeat (first | apply Kd.V_alloc | apply Kd.V_drewN | apply Kd.V_drew)); exact Kd.V_mono (Vf10 (g := Ar) (Kd.V_mono Ad.out (fun k_ hk => (⟨hk, hk.2⟩ : _ ∧ k_ ≠ Ar))) (fun _ hk => hk.2)) (fun _ hk => ⟨hk.1.1.1.1.2, ⟨hk.1.1.2, ⟨hk.1.1.1.1.1.1, ⟨hk.1.1.1.1.1.2, ⟨hk.1.1.1.2, hk.1.2⟩⟩⟩⟩⟩)))⟩; replace Ay : Aside0 (Kd.R (Kd.int .u8) 5 w85 w.heap.size (fun k_ => some k_ ≠ (.slice Ci t423.length Cj : Value).ownBlock) (.slice Cx t409.length Cy) t409) := ⟨(by rw [hw]; exact (by (with_reducible repeat (first | apply Kd.R_alloc | apply Kd.R_drewN | apply Kd.R_drew)); exact Kd.R_mono (Rf10 (g := Ar) (Kd.R_types Ay.out Ax.out (by decide)) (fun _ hk => hk.2)) (fun _ hk => hk.1.2)))⟩; replace A4 : Aside0 (Kd.R (Kd.int .u8) 5 w85 w.heap.size (fun k_ => some k_ ≠ (.slice Cx t409.length Cy : Value).ownBlock) (.slice Ci t423.length Cj) t423) := ⟨(by rw [hw]; exact (by (with_reducible repeat (first | apply Kd.R_alloc | apply Kd.R_drewN | apply Kd.R_drew)); exact Kd.R_mono (Rf10 (g := Ar) (Kd.R_types A4.out Ax.out (by decide)) (fun _ hk => hk.2)) (fun _ hk => hk.1.2)))⟩; replace Ab : Aside0 (w85.heap[Ae]? = some (.cells #[.int .i64 Aj, .int .i64 Ak, .slice Bw Ac.length Bx, .int .i64 Al, .int .i64 An, .int .i64 Ah, .int .i64 Ao] 26 (0, 0))) := ⟨(by rw [hw]; exact (kX1a Ab.out Bh.out))⟩; replace Ag : Aside0 (w85.heap[Ai]? = some (.cells #[.int .i64 t391, .int .i64 t392, .slice Ca t393.length By, .int .i64 t396, .int .i64 t397, .int .i64 t398, .int .i64 t399] 26 (0, 0))) := ⟨(by rw [hw]; exact (kX1a Ag.out Bi.out))⟩; replace Au : Aside0 (w85.heap[Aq]? = some (.cells #[.int .i64 t404, .int .i64 t405, .int .i64 t406, .string t407, .bool t408, .slice Cx t409.length Cy, .int .i64 t412, .int .i64 t413, .int .i64 t414, .int .u32 t415] 46 (0, 0))) := ⟨(by rw [hw]; exact (kX1a Au.out Bj.out))⟩; replace Ax : Aside0 (w85.heap[Ar]? = some (.cells #[.int .i64 t418, .int .i64 t419, .int .i64 t420, .string t421, .bool t422, .slice Ci t423.length Cj, .int .i64 t426, .int .i64 t427, .int .i64 t428, .int .u32 t429] 46 (0, 0))) := ⟨(by rw [hw]; exact (kX0 Ax.out))⟩; replace HB : Aside0 (Below w.heap.size w w85) := ⟨(by rw [hw]; exact (pE4 HB.out As.out Av.out A2.out Bl.out))⟩; clear hw; obtain ⟨hcz86_0, hcz86_1, hcz86_2, hcz86_3, hcz86_4, hcz86_5, hcz86_6, hcz86_7, hcz86_8, hcz86_9⟩ := bc10 Au.out; obtain ⟨hfz86_0, hfz86_1, hfz86_2, hfz86_3, hfz86_4, hfz86_5, hfz86_6, hfz86_7, hfz86_8, hfz86_9⟩ := bf10 Au.out) | ((with_reducible refine gate_dst (N := 80) rfl ?_); (try (refine gate_guard (by rfl) ?_; dsimp only)); refine Kd.N_lit k46 _ 46 ?hg (N' := 80) ?hd (xs := ([(⟨t404, t405, t406, t407, (⟨t408, t409, (⟨t412, t413, t414, t415⟩ : S42)⟩ : S44)⟩ : S46)] : List (S46))) (inner := [.int .i64 t404, .int .i64 t405, .int .i64 t406, .string t407, .bool t408, .slice Cx t409.length Cy, .int .i64 t412, .int .i64 t413, .int .i64 t414, .int .u32 t415]) (ok := (fun k_ => some k_ ≠ (.slice Ci t423.length Cj : Value).ownBlock ∧ k_ ≠ Ae ∧ k_ ≠ Ai ∧ k_ ≠ Aq ∧ k_ ≠ Ar)) (okp := (fun k_ => some k_ ≠ (.slice Ci t423.length Cj : Value).ownBlock ∧ k_ ≠ Ae ∧ k_ ≠ Ai ∧ k_ ≠ Aq ∧ k_ ≠ Ar)) ?hr ?hp (fun _ hk => hk) ((show ∀ k_, w85.heap.size ≤ k_ → (fun k_ => some k_ ≠ (.slice Ci t423.length Cj : Value).ownBlock ∧ k_ ≠ Ae ∧ k_ ≠ Ai ∧ k_ ≠ Aq ∧ k_ ≠ Ar) k_ from fun k_ hk => ⟨Kd.fresh' (Kd.R_lt (pR A4.out)) k_ hk, kF Ab.out k_ hk, kF Ag.out k_ hk, kF Au.out k_ hk, kF Ax.out k_ hk⟩) _ (Nat.le_refl _)) (Below.refl _ _) (Nat.le_refl _) (by simp) ?_; (case hd => rfl); (case hg => rfl); (case hr => first | (go_simp; done) | (go_simp; rfl)); (case hp => exact (Reps.c10 (show Kd.FK k46 _ _ (⟨t404, t405, t406, t407, (⟨t408, t409, (⟨t412, t413, t414, t415⟩ : S42)⟩ : S44)⟩ : S46) [.int .i64 t404, .int .i64 t405, .int .i64 t406, .string t407, .bool t408, .slice Cx t409.length Cy, .int .i64 t412, .int .i64 t413, .int .i64 t414, .int .u32 t415] from (k46_mkF _ _ (⟨t404, t405, t406, t407, (⟨t408, t409, (⟨t412, t413, t414, t415⟩ : S42)⟩ : S44)⟩ : S46) (Kd.R_reads' (Kd.R_mono (ok' := (fun k_ => some k_ ≠ (.slice Ci t423.length Cj : Value).ownBlock ∧ k_ ≠ Ae ∧ k_ ≠ Ai ∧ k_ ≠ Aq ∧ k_ ≠ Ar)) (Kd.R_types (Kd.R_types (Kd.R_types (Kd.R_types (Ay.out) Ab.out (by decide)) Ag.out (by decide)) Au.out (by decide)) Ax.out (by decide)) (fun k_ hk => ⟨hk.1.1.1.1, ⟨hk.1.1.1.2, ⟨hk.1.1.2, ⟨hk.1.2, hk.2⟩⟩⟩⟩))).2.1 (Kd.R_F (Kd.R_mono (ok' := (fun k_ => some k_ ≠ (.slice Ci t423.length Cj : Value).ownBlock ∧ k_ ≠ Ae ∧ k_ ≠ Ai ∧ k_ ≠ Aq ∧ k_ ≠ Ar)) (Kd.R_types (Kd.R_types (Kd.R_types (Kd.R_types (Ay.out) Ab.out (by decide)) Ag.out (by decide)) Au.out (by decide)) Ax.out (by decide)) (fun k_ hk => ⟨hk.1.1.1.1, ⟨hk.1.1.1.2, ⟨hk.1.1.2, ⟨hk.1.2, hk.2⟩⟩⟩⟩))))) (Reps.none _ _))); intro v433 w87 ho88 hb hg_ hnew_; clear hg_ hnew_; (first | rw [← Ny432.out] at ho88 | (simp only [Int.reduceToNat] at ho88; rw [← Ny432.out] at ho88)); replace Aa := Am (Kd.V_elder' (pV Aa.out) (Kd.N_base ho88) hb); replace Ad := Am (Kd.V_elder' (pV Ad.out) (Kd.N_base ho88) hb); replace A4 := bRa A4 hb; have Bk := Am (Kd.N_lower ho88 (below_size (pE4 HB.out As.out Av.out A2.out Bl.out))); replace Ab := kBa Ab hb; replace Ag := kBa Ag hb; replace Au := kBa Au hb; replace Ax := kBa Ax hb; replace HB := Am (below_step (pE4 HB.out As.out Av.out A2.out Bl.out) hb); clear Ay hb ho88; obtain ⟨hcz89_0, hcz89_1, hcz89_2, hcz89_3, hcz89_4, hcz89_5, hcz89_6, hcz89_7, hcz89_8, hcz89_9⟩ := bc10 Ax.out; obtain ⟨hfz89_0, hfz89_1, hfz89_2, hfz89_3, hfz89_4, hfz89_5, hfz89_6, hfz89_7, hfz89_8, hfz89_9⟩ := bf10 Ax.out) | ((with_reducible refine gate_dst (N := 82) rfl ?_); (try (refine gate_guard (by rfl) ?_; dsimp only)); refine Kd.N_lit k46 _ 46 ?hg (N' := 82) ?hd (xs := ([(⟨t418, t419, t420, t421, (⟨t422, t423, (⟨t426, t427, t428, t429⟩ : S42)⟩ : S44)⟩ : S46)] : List (S46))) (inner := [.int .i64 t418, .int .i64 t419, .int .i64 t420, .string t421, .bool t422, .slice Ci t423.length Cj, .int .i64 t426, .int .i64 t427, .int .i64 t428, .int .u32 t429]) (ok := (fun k_ => some k_ ≠ (v433 : Value).ownBlock ∧ k_ ≠ Ae ∧ k_ ≠ Ai ∧ k_ ≠ Aq ∧ k_ ≠ Ar)) (okp := (fun k_ => some k_ ≠ (v433 : Value).ownBlock ∧ k_ ≠ Ae ∧ k_ ≠ Ai ∧ k_ ≠ Aq ∧ k_ ≠ Ar)) ?hr ?hp (fun _ hk => hk) ((show ∀ k_, w87.heap.size ≤ k_ → (fun k_ => some k_ ≠ (v433 : Value).ownBlock ∧ k_ ≠ Ae ∧ k_ ≠ Ai ∧ k_ ≠ Aq ∧ k_ ≠ Ar) k_ from fun k_ hk => ⟨Kd.fresh' (Kd.N_lt (pN Bk.out)) k_ hk, kF Ab.out k_ hk, kF Ag.out k_ hk, kF Au.out k_ hk, kF Ax.out k_ hk⟩) _ (Nat.le_refl _)) (Below.refl _ _) (Nat.le_refl _) (by simp) ?_; (case hd => rfl); (case hg => rfl); (case hr => first | (go_simp; done) | (go_simp; rfl)); (case hp => exact (Reps.c10 (show Kd.FK k46 _ _ (⟨t418, t419, t420, t421, (⟨t422, t423, (⟨t426, t427, t428, t429⟩ : S42)⟩ : S44)⟩ : S46) [.int .i64 t418, .int .i64 t419, .int .i64 t420, .string t421, .bool t422, .slice Ci t423.length Cj, .int .i64 t426, .int .i64 t427, .int .i64 t428, .int .u32 t429] from (k46_mkF _ _ (⟨t418, t419, t420, t421, (⟨t422, t423, (⟨t426, t427, t428, t429⟩ : S42)⟩ : S44)⟩ : S46) (Kd.R_reads' (Kd.R_mono (ok' := (fun k_ => some k_ ≠ (v433 : Value).ownBlock ∧ k_ ≠ Ae ∧ k_ ≠ Ai ∧ k_ ≠ Aq ∧ k_ ≠ Ar)) (Kd.R_types (Kd.R_types (Kd.R_types (Kd.R_types (Kd.R_apart' (A4.out) (Kd.N_typed Bk.out) (by decide)) Ab.out (by decide)) Ag.out (by decide)) Au.out (by decide)) Ax.out (by decide)) (fun k_ hk => ⟨hk.1.1.1.1.2, ⟨hk.1.1.1.2, ⟨hk.1.1.2, ⟨hk.1.2, hk.2⟩⟩⟩⟩))).2.1 (Kd.R_F (Kd.R_mono (ok' := (fun k_ => some k_ ≠ (v433 : Value).ownBlock ∧ k_ ≠ Ae ∧ k_ ≠ Ai ∧ k_ ≠ Aq ∧ k_ ≠ Ar)) (Kd.R_types (Kd.R_types (Kd.R_types (Kd.R_types (Kd.R_apart' (A4.out) (Kd.N_typed Bk.out) (by decide)) Ab.out (by decide)) Ag.out (by decide)) Au.out (by decide)) Ax.out (by decide)) (fun k_ hk => ⟨hk.1.1.1.1.2, ⟨hk.1.1.1.2, ⟨hk.1.1.2, ⟨hk.1.2, hk.2⟩⟩⟩⟩))))) (Reps.none _ _))); intro v436 w90 ho91 hb hg_ hnew_; clear hg_ hnew_; (first | rw [← Ny435.out] at ho91 | (simp only [Int.reduceToNat] at ho91; rw [← Ny435.out] at ho91)); replace Aa := Am (Kd.V_elder' (pV Aa.out) (Kd.N_base ho91) hb); replace Ad := Am (Kd.V_elder' (pV Ad.out) (Kd.N_base ho91) hb); replace Bk := Am (Kd.N_elder' (pN Bk.out) (Kd.N_base ho91) hb); have B7 := Am (Kd.N_lower ho91 (below_size (pE4 HB.out As.out Av.out A2.out Bl.out))); replace Ab := kBa Ab hb; replace Ag := kBa Ag hb; replace Au := kBa Au hb; replace Ax := kBa Ax hb; replace HB := Am (below_step (pE4 HB.out As.out Av.out A2.out Bl.out) hb); clear A4 hb ho91; obtain ⟨Ao92, co92, Fg⟩ := Kd.N_slice Bk.out; subst Fg; obtain ⟨Ao93, co93, Fh⟩ := Kd.N_slice B7.out; subst Fh) | (go_at_call 13; (with_reducible refine (garnerref06_Same.calls kj27 _ _ y432 _ _ y435 false _ ?Az ?A1 ?B6 ?Du A41.out).mono ?_); (case Az => exact pC (Kd.N_reads' Bk.out).2.2); (case A1 => exact (Kd.N_reads' Bk.out).2.1); (case B6 => exact pC (Kd.N_reads' B7.out).2.2); (case Du => exact (Kd.N_reads' B7.out).2.1); rintro e w94 ⟨rfl, hb⟩; replace Aa := bVa Aa hb; replace Ad := bVa Ad hb; replace Bk := bNa Bk hb; replace B7 := bNa B7 hb; replace Ab := kBa Ab hb; replace Ag := kBa Ag hb; replace Au := kBa Au hb; replace Ax := kBa Ax hb; replace HB := Am (below_step (pE4 HB.out As.out Av.out A2.out Bl.out) hb); (try clear hb); (try clear hb2); (try clear hk); (try clear hi)))
        go_ret
        exact ⟨pX, pE4 HB.out As.out Av.out A2.out Bl.out⟩
       subst c42
       have H1 : (garnerlaw23_RaftMay.l1 kj27 l0 Af (wrap64 (A8 + 1)) Aj Ak Ac Al An Ah Ao t391 t392 t393 t396 t397 t398 t399) = some r := by rw [if_pos rfl] at H; exact H
       clear H
       have H := H1
       clear H1
       have H' := Am H
       clear H
       have hnb43 := Ap.out
       have hnc43 := At.out
       obtain ⟨hcz44_0, hcz44_1, hcz44_2, hcz44_3, hcz44_4, hcz44_5, hcz44_6⟩ := bc7 Ab.out
       obtain ⟨hfz44_0, hfz44_1, hfz44_2, hfz44_3, hfz44_4, hfz44_5, hfz44_6⟩ := bf7 Ab.out
       go_wp2_with (first | ((with_reducible refine gate_callee (f := 12) rfl ?_); refine goesL_ (some 63) rfl rfl Try.func12 (by kernel_rfl) rfl #[.agg #[.int .i64 Aj, .int .i64 Ak, .slice Bw Ac.length Bx, .int .i64 Al, .int .i64 An, .int .i64 Ah, .int .i64 Ao], .int .i64 A8] rfl pL ?_; (with_reducible refine (raft_Get.calls kj27 Aj Ak _ _ Ac Al An Ah Ao A8 t404 t405 t406 t407 t408 t409 t412 t413 t414 t415 t416 _ ?Az ?A1 A37.out).mono ?_); (case Az => exact pC (Kd.V_reads' Aa.out).2.2); (case A1 => exact (Kd.V_reads' Aa.out).2.1); rintro e w45 ⟨v410, rfl, ho0, hb⟩; refine ⟨_, rfl, ?_⟩; replace Aa := Am (Kd.V_elder' (pV Aa.out) (Kd.R_base ho0) hb); replace Ad := Am (Kd.V_elder' (pV Ad.out) (Kd.R_base ho0) hb); have Ay := Am (Kd.R_lower ho0 (below_size (pE2 HB.out As.out Av.out))); replace Ab := kBa Ab hb; replace Ag := kBa Ag hb; replace HB := Am (below_step (pE2 HB.out As.out Av.out) hb); (try clear hb); (try clear hb2); (try clear hk); (try clear hi); (try clear ho0)) | ((with_reducible refine gate_dst (N := 8) rfl ?_); (try (refine gate_guard (by rfl) ?_; dsimp only)); refine box_event ?hg (N := 8) ?hd (cs := #[.int .i64 0, .int .i64 0, .int .i64 0, .string (⟨#[]⟩ : ByteArray), .bool false, .slice none 0 0, .int .i64 0, .int .i64 0, .int .i64 0, .int .u32 0]) (t := 46) ?hr ?_; (case hd => rfl); (case hg => rfl); (case hr => first | (go_simp; done) | (go_simp; rfl)); intro Aq hg w46 hbox hb; replace Aa := Am (Kd.V_below (Kd.V_elderB (pV Aa.out) Aq (Nat.le_of_eq hg.symm)) hb); replace Ad := Am (Kd.V_below (Kd.V_elderB (pV Ad.out) Aq (Nat.le_of_eq hg.symm)) hb); replace Ay := bRa Ay hb; have Au := Am (hbox); have Cr := Am ((by rw [hg]; exact (below_size (pE2 HB.out As.out Av.out)) : w.heap.size ≤ Aq)); replace HB := Am (below_step (pE2 HB.out As.out Av.out) hb); have A2 := Cr; have A5 := Am ((by rw [hg]; exact Nat.ne_of_lt (kL Ab.out) : Ae ≠ Aq)); have Bm := Am ((by rw [hg]; exact Nat.ne_of_gt (kL Ab.out) : Aq ≠ Ae)); replace Ab := kBa Ab hb; have A6 := Am ((by rw [hg]; exact Nat.ne_of_lt (kL Ag.out) : Ai ≠ Aq)); have Bn := Am ((by rw [hg]; exact Nat.ne_of_gt (kL Ag.out) : Aq ≠ Ai)); replace Ag := kBa Ag hb; clear hb hbox hg; have hnb47 := Bm.out; have hnc47 := A5.out; have hnb48 := Bn.out; have hnc48 := A6.out; obtain ⟨hcz49_0, hcz49_1, hcz49_2, hcz49_3, hcz49_4, hcz49_5, hcz49_6, hcz49_7, hcz49_8, hcz49_9⟩ := bc10 Au.out; obtain ⟨hfz49_0, hfz49_1, hfz49_2, hfz49_3, hfz49_4, hfz49_5, hfz49_6, hfz49_7, hfz49_8, hfz49_9⟩ := bf10 Au.out; obtain ⟨Cv, Cw, Fa⟩ := Kd.R_slice Ay.out; subst Fa; obtain ⟨hcz51_0, hcz51_1, hcz51_2, hcz51_3, hcz51_4, hcz51_5, hcz51_6⟩ := bc7 Ag.out; obtain ⟨hfz51_0, hfz51_1, hfz51_2, hfz51_3, hfz51_4, hfz51_5, hfz51_6⟩ := bf7 Ag.out) | ((with_reducible refine gate_callee (f := 12) rfl ?_); refine goesL_ (some 69) rfl rfl Try.func12 (by kernel_rfl) rfl #[.agg #[.int .i64 t391, .int .i64 t392, .slice Ca t393.length By, .int .i64 t396, .int .i64 t397, .int .i64 t398, .int .i64 t399], .int .i64 A8] rfl pL ?_; (with_reducible refine (raft_Get.calls kj27 t391 t392 _ _ t393 t396 t397 t398 t399 A8 t418 t419 t420 t421 t422 t423 t426 t427 t428 t429 t430 _ ?Az ?A1 A38.out).mono ?_); (case Az => refine (Kd.V_reads' (e := 46) (base := w.heap.size) (ok := fun k_ => (((k_ ≠ Ae ∧ k_ ≠ Ai) ∧ some k_ ≠ (.slice Cv t409.length Cw : Value).ownBlock) ∧ k_ ≠ Aq)) (n := t393.length) (c := By) ?_).2.2; exact (by (with_reducible repeat (first | apply Kd.V_alloc | apply Kd.V_drewN | apply Kd.V_drew)); exact (Kd.V_mono (Vf10 (g := Aq) (Kd.V_mono Ad.out (fun k_ hk => (⟨hk, hk.2⟩ : _ ∧ k_ ≠ Aq))) (fun _ hk => hk.2)) (fun _ h_ => h_.1)))); (case A1 => exact (Kd.V_reads' Ad.out).2.1); rintro e w52 ⟨v424, rfl, ho0, hb⟩; refine ⟨_, rfl, ?_⟩; replace Aa := Am (Kd.V_elder' (by (with_reducible repeat (first | apply Kd.V_alloc | apply Kd.V_drewN | apply Kd.V_drew)); exact (Kd.V_mono (Vf10 (g := Aq) (Kd.V_mono Aa.out (fun k_ hk => (⟨hk, hk.2⟩ : _ ∧ k_ ≠ Aq))) (fun _ hk => hk.2)) (fun _ h_ => h_.1))) (Kd.R_base ho0) hb); replace Ad := Am (Kd.V_elder' (by (with_reducible repeat (first | apply Kd.V_alloc | apply Kd.V_drewN | apply Kd.V_drew)); exact (Kd.V_mono (Vf10 (g := Aq) (Kd.V_mono Ad.out (fun k_ hk => (⟨hk, hk.2⟩ : _ ∧ k_ ≠ Aq))) (fun _ hk => hk.2)) (fun _ h_ => h_.1))) (Kd.R_base ho0) hb); have A4 := Am (Kd.R_lower (Kd.R_new' ho0 (Kd.R_lt (by (with_reducible repeat (first | apply Kd.R_alloc | apply Kd.R_drewN | apply Kd.R_drew)); exact (Kd.R_mono (Rf10 (g := Aq) (Kd.R_types Ay.out Au.out (by decide)) (fun _ hk => hk.2)) (fun _ h_ => h_.1))))) (below_size (pE3 HB.out As.out Av.out A2.out))); replace Ay := Am (Kd.R_elder' (by (with_reducible repeat (first | apply Kd.R_alloc | apply Kd.R_drewN | apply Kd.R_drew)); exact (Kd.R_mono (Rf10 (g := Aq) (Kd.R_types Ay.out Au.out (by decide)) (fun _ hk => hk.2)) (fun _ h_ => h_.1))) (Kd.R_base ho0) hb); replace Ab := Am (blk_below (g := Ae) (kX1a Ab.out A5.out) hb); replace Ag := Am (blk_below (g := Ai) (kX1a Ag.out A6.out) hb); replace Au := Am (blk_below (g := Aq) (kX0 Au.out) hb); replace HB := Am (below_step (pE3 HB.out As.out Av.out A2.out) hb); (try clear hb); (try clear hb2); (try clear hk); (try clear hi); (try clear ho0)) | ((with_reducible refine gate_dst (N := 10) rfl ?_); (try (refine gate_guard (by rfl) ?_; dsimp only)); refine box_event ?hg (N := 10) ?hd (cs := #[.int .i64 0, .int .i64 0, .int .i64 0, .string (⟨#[]⟩ : ByteArray), .bool false, .slice none 0 0, .int .i64 0, .int .i64 0, .int .i64 0, .int .u32 0]) (t := 46) ?hr ?_; (case hd => rfl); (case hg => rfl); (case hr => first | (go_simp; done) | (go_simp; rfl)); intro Ar hg w53 hbox hb; replace Aa := Am (Kd.V_below (Kd.V_elderB (pV Aa.out) Ar (Nat.le_of_eq hg.symm)) hb); replace Ad := Am (Kd.V_below (Kd.V_elderB (pV Ad.out) Ar (Nat.le_of_eq hg.symm)) hb); replace Ay := bRa Ay hb; replace A4 := bRa A4 hb; have Ax := Am (hbox); have Cs := Am ((by rw [hg]; exact (below_size (pE3 HB.out As.out Av.out A2.out)) : w.heap.size ≤ Ar)); replace HB := Am (below_step (pE3 HB.out As.out Av.out A2.out) hb); have Bl := Cs; have Bh := Am ((by rw [hg]; exact Nat.ne_of_lt (kL Ab.out) : Ae ≠ Ar)); have Bo := Am ((by rw [hg]; exact Nat.ne_of_gt (kL Ab.out) : Ar ≠ Ae)); replace Ab := kBa Ab hb; have Bi := Am ((by rw [hg]; exact Nat.ne_of_lt (kL Ag.out) : Ai ≠ Ar)); have Bp := Am ((by rw [hg]; exact Nat.ne_of_gt (kL Ag.out) : Ar ≠ Ai)); replace Ag := kBa Ag hb; have Bj := Am ((by rw [hg]; exact Nat.ne_of_lt (kL Au.out) : Aq ≠ Ar)); have Bq := Am ((by rw [hg]; exact Nat.ne_of_gt (kL Au.out) : Ar ≠ Aq)); replace Au := kBa Au hb; clear hb hbox hg; have hnb54 := Bo.out; have hnc54 := Bh.out; have hnb55 := Bp.out; have hnc55 := Bi.out; have hnb56 := Bq.out; have hnc56 := Bj.out; obtain ⟨hcz57_0, hcz57_1, hcz57_2, hcz57_3, hcz57_4, hcz57_5, hcz57_6, hcz57_7, hcz57_8, hcz57_9⟩ := bc10 Ax.out; obtain ⟨hfz57_0, hfz57_1, hfz57_2, hfz57_3, hfz57_4, hfz57_5, hfz57_6, hfz57_7, hfz57_8, hfz57_9⟩ := bf10 Ax.out; obtain ⟨Cg, Ch, Fb⟩ := Kd.R_slice A4.out; subst Fb) | ((with_reducible refine gate_store (t := 46) (p := 10) rfl ?_); refine store_event (t := 46) (p := 10) (v := ?vo_w59) (w1 := ((((((((((w53.setCell ⟨Ar, 0, none⟩ (.int .i64 t418)).setCell ⟨Ar, 1, none⟩ (.int .i64 t419)).setCell ⟨Ar, 2, none⟩ (.int .i64 t420)).setCell ⟨Ar, 3, none⟩ (.string t421)).setCell ⟨Ar, 4, none⟩ (.bool t422)).setCell ⟨Ar, 5, none⟩ (.slice Cg t423.length Ch)).setCell ⟨Ar, 6, none⟩ (.int .i64 t426)).setCell ⟨Ar, 7, none⟩ (.int .i64 t427)).setCell ⟨Ar, 8, none⟩ (.int .i64 t428)).setCell ⟨Ar, 9, none⟩ (.int .u32 t429))) ?hg ?ho ?hn ?hr ?_; (case ho => rfl); (case hg => rfl); (case hn => rfl); (case hr => first | (go_simp; done) | (go_simp; rfl)); intro w59 hw; replace Aa : Aside0 (Kd.V k46 46 w59 w.heap.size (fun k_ => some k_ ≠ (.slice Cv t409.length Cw : Value).ownBlock ∧ some k_ ≠ (.slice Cg t423.length Ch : Value).ownBlock ∧ k_ ≠ Ae ∧ k_ ≠ Ai ∧ k_ ≠ Aq ∧ k_ ≠ Ar) (.slice Bw Ac.length Bx) Ac) := ⟨(by rw [hw]; exact (by (with_reducible repeat (first | apply Kd.V_alloc | apply Kd.V_drewN | apply Kd.V_drew)); exact Kd.V_mono (Vf10 (g := Ar) (Kd.V_mono Aa.out (fun k_ hk => (⟨hk, hk.2⟩ : _ ∧ k_ ≠ Ar))) (fun _ hk => hk.2)) (fun _ hk => ⟨hk.1.1.1.1.2, ⟨hk.1.1.2, ⟨hk.1.1.1.1.1.1, ⟨hk.1.1.1.1.1.2, ⟨hk.1.1.1.2, hk.1.2⟩⟩⟩⟩⟩)))⟩; replace Ad : Aside0 (Kd.V k46 46 w59 w.heap.size (fun k_ => some k_ ≠ (.slice Cv t409.length Cw : Value).ownBlock ∧ some k_ ≠ (.slice Cg t423.length Ch : Value).ownBlock ∧ k_ ≠ Ae ∧ k_ ≠ Ai ∧ k_ ≠ Aq ∧ k_ ≠ Ar) (.slice Ca t393.length By) t393) := ⟨(by rw [hw]; exact (by (with_reducible repeat (first | apply Kd.V_alloc | apply Kd.V_drewN | apply Kd.V_drew)); exact Kd.V_mono (Vf10 (g := Ar) (Kd.V_mono Ad.out (fun k_ hk => (⟨hk, hk.2⟩ : _ ∧ k_ ≠ Ar))) (fun _ hk => hk.2)) (fun _ hk => ⟨hk.1.1.1.1.2, ⟨hk.1.1.2, ⟨hk.1.1.1.1.1.1, ⟨hk.1.1.1.1.1.2, ⟨hk.1.1.1.2, hk.1.2⟩⟩⟩⟩⟩)))⟩; replace Ay : Aside0 (Kd.R (Kd.int .u8) 5 w59 w.heap.size (fun k_ => some k_ ≠ (.slice Cg t423.length Ch : Value).ownBlock) (.slice Cv t409.length Cw) t409) := ⟨(by rw [hw]; exact (by (with_reducible repeat (first | apply Kd.R_alloc | apply Kd.R_drewN | apply Kd.R_drew)); exact Kd.R_mono (Rf10 (g := Ar) (Kd.R_types Ay.out Ax.out (by decide)) (fun _ hk => hk.2)) (fun _ hk => hk.1.2)))⟩; replace A4 : Aside0 (Kd.R (Kd.int .u8) 5 w59 w.heap.size (fun k_ => some k_ ≠ (.slice Cv t409.length Cw : Value).ownBlock) (.slice Cg t423.length Ch) t423) := ⟨(by rw [hw]; exact (by (with_reducible repeat (first | apply Kd.R_alloc | apply Kd.R_drewN | apply Kd.R_drew)); exact Kd.R_mono (Rf10 (g := Ar) (Kd.R_types A4.out Ax.out (by decide)) (fun _ hk => hk.2)) (fun _ hk => hk.1.2)))⟩; replace Ab : Aside0 (w59.heap[Ae]? = some (.cells #[.int .i64 Aj, .int .i64 Ak, .slice Bw Ac.length Bx, .int .i64 Al, .int .i64 An, .int .i64 Ah, .int .i64 Ao] 26 (0, 0))) := ⟨(by rw [hw]; exact (kX1a Ab.out Bh.out))⟩; replace Ag : Aside0 (w59.heap[Ai]? = some (.cells #[.int .i64 t391, .int .i64 t392, .slice Ca t393.length By, .int .i64 t396, .int .i64 t397, .int .i64 t398, .int .i64 t399] 26 (0, 0))) := ⟨(by rw [hw]; exact (kX1a Ag.out Bi.out))⟩; replace Au : Aside0 (w59.heap[Aq]? = some (.cells #[.int .i64 t404, .int .i64 t405, .int .i64 t406, .string t407, .bool t408, .slice Cv t409.length Cw, .int .i64 t412, .int .i64 t413, .int .i64 t414, .int .u32 t415] 46 (0, 0))) := ⟨(by rw [hw]; exact (kX1a Au.out Bj.out))⟩; replace Ax : Aside0 (w59.heap[Ar]? = some (.cells #[.int .i64 t418, .int .i64 t419, .int .i64 t420, .string t421, .bool t422, .slice Cg t423.length Ch, .int .i64 t426, .int .i64 t427, .int .i64 t428, .int .u32 t429] 46 (0, 0))) := ⟨(by rw [hw]; exact (kX0 Ax.out))⟩; replace HB : Aside0 (Below w.heap.size w w59) := ⟨(by rw [hw]; exact (pE4 HB.out As.out Av.out A2.out Bl.out))⟩; clear hw; obtain ⟨hcz60_0, hcz60_1, hcz60_2, hcz60_3, hcz60_4, hcz60_5, hcz60_6, hcz60_7, hcz60_8, hcz60_9⟩ := bc10 Au.out; obtain ⟨hfz60_0, hfz60_1, hfz60_2, hfz60_3, hfz60_4, hfz60_5, hfz60_6, hfz60_7, hfz60_8, hfz60_9⟩ := bf10 Au.out) | ((with_reducible refine gate_dst (N := 80) rfl ?_); (try (refine gate_guard (by rfl) ?_; dsimp only)); refine Kd.N_lit k46 _ 46 ?hg (N' := 80) ?hd (xs := ([(⟨t404, t405, t406, t407, (⟨t408, t409, (⟨t412, t413, t414, t415⟩ : S42)⟩ : S44)⟩ : S46)] : List (S46))) (inner := [.int .i64 t404, .int .i64 t405, .int .i64 t406, .string t407, .bool t408, .slice Cv t409.length Cw, .int .i64 t412, .int .i64 t413, .int .i64 t414, .int .u32 t415]) (ok := (fun k_ => some k_ ≠ (.slice Cg t423.length Ch : Value).ownBlock ∧ k_ ≠ Ae ∧ k_ ≠ Ai ∧ k_ ≠ Aq ∧ k_ ≠ Ar)) (okp := (fun k_ => some k_ ≠ (.slice Cg t423.length Ch : Value).ownBlock ∧ k_ ≠ Ae ∧ k_ ≠ Ai ∧ k_ ≠ Aq ∧ k_ ≠ Ar)) ?hr ?hp (fun _ hk => hk) ((show ∀ k_, w59.heap.size ≤ k_ → (fun k_ => some k_ ≠ (.slice Cg t423.length Ch : Value).ownBlock ∧ k_ ≠ Ae ∧ k_ ≠ Ai ∧ k_ ≠ Aq ∧ k_ ≠ Ar) k_ from fun k_ hk => ⟨Kd.fresh' (Kd.R_lt (pR A4.out)) k_ hk, kF Ab.out k_ hk, kF Ag.out k_ hk, kF Au.out k_ hk, kF Ax.out k_ hk⟩) _ (Nat.le_refl _)) (Below.refl _ _) (Nat.le_refl _) (by simp) ?_; (case hd => rfl); (case hg => rfl); (case hr => first | (go_simp; done) | (go_simp; rfl)); (case hp => exact (Reps.c10 (show Kd.FK k46 _ _ (⟨t404, t405, t406, t407, (⟨t408, t409, (⟨t412, t413, t414, t415⟩ : S42)⟩ : S44)⟩ : S46) [.int .i64 t404, .int .i64 t405, .int .i64 t406, .string t407, .bool t408, .slice Cv t409.length Cw, .int .i64 t412, .int .i64 t413, .int .i64 t414, .int .u32 t415] from (k46_mkF _ _ (⟨t404, t405, t406, t407, (⟨t408, t409, (⟨t412, t413, t414, t415⟩ : S42)⟩ : S44)⟩ : S46) (Kd.R_reads' (Kd.R_mono (ok' := (fun k_ => some k_ ≠ (.slice Cg t423.length Ch : Value).ownBlock ∧ k_ ≠ Ae ∧ k_ ≠ Ai ∧ k_ ≠ Aq ∧ k_ ≠ Ar)) (Kd.R_types (Kd.R_types (Kd.R_types (Kd.R_types (Ay.out) Ab.out (by decide)) Ag.out (by decide)) Au.out (by decide)) Ax.out (by decide)) (fun k_ hk => ⟨hk.1.1.1.1, ⟨hk.1.1.1.2, ⟨hk.1.1.2, ⟨hk.1.2, hk.2⟩⟩⟩⟩))).2.1 (Kd.R_F (Kd.R_mono (ok' := (fun k_ => some k_ ≠ (.slice Cg t423.length Ch : Value).ownBlock ∧ k_ ≠ Ae ∧ k_ ≠ Ai ∧ k_ ≠ Aq ∧ k_ ≠ Ar)) (Kd.R_types (Kd.R_types (Kd.R_types (Kd.R_types (Ay.out) Ab.out (by decide)) Ag.out (by decide)) Au.out (by decide)) Ax.out (by decide)) (fun k_ hk => ⟨hk.1.1.1.1, ⟨hk.1.1.1.2, ⟨hk.1.1.2, ⟨hk.1.2, hk.2⟩⟩⟩⟩))))) (Reps.none _ _))); intro v433 w61 ho62 hb hg_ hnew_; clear hg_ hnew_; (first | rw [← Ny432.out] at ho62 | (simp only [Int.reduceToNat] at ho62; rw [← Ny432.out] at ho62)); replace Aa := Am (Kd.V_elder' (pV Aa.out) (Kd.N_base ho62) hb); replace Ad := Am (Kd.V_elder' (pV Ad.out) (Kd.N_base ho62) hb); replace A4 := bRa A4 hb; have Bk := Am (Kd.N_lower ho62 (below_size (pE4 HB.out As.out Av.out A2.out Bl.out))); replace Ab := kBa Ab hb; replace Ag := kBa Ag hb; replace Au := kBa Au hb; replace Ax := kBa Ax hb; replace HB := Am (below_step (pE4 HB.out As.out Av.out A2.out Bl.out) hb); clear Ay hb ho62; obtain ⟨hcz63_0, hcz63_1, hcz63_2, hcz63_3, hcz63_4, hcz63_5, hcz63_6, hcz63_7, hcz63_8, hcz63_9⟩ := bc10 Ax.out; obtain ⟨hfz63_0, hfz63_1, hfz63_2, hfz63_3, hfz63_4, hfz63_5, hfz63_6, hfz63_7, hfz63_8, hfz63_9⟩ := bf10 Ax.out) | ((with_reducible refine gate_dst (N := 82) rfl ?_); (try (refine gate_guard (by rfl) ?_; dsimp only)); refine Kd.N_lit k46 _ 46 ?hg (N' := 82) ?hd (xs := ([(⟨t418, t419, t420, t421, (⟨t422, t423, (⟨t426, t427, t428, t429⟩ : S42)⟩ : S44)⟩ : S46)] : List (S46))) (inner := [.int .i64 t418, .int .i64 t419, .int .i64 t420, .string t421, .bool t422, .slice Cg t423.length Ch, .int .i64 t426, .int .i64 t427, .int .i64 t428, .int .u32 t429]) (ok := (fun k_ => some k_ ≠ (v433 : Value).ownBlock ∧ k_ ≠ Ae ∧ k_ ≠ Ai ∧ k_ ≠ Aq ∧ k_ ≠ Ar)) (okp := (fun k_ => some k_ ≠ (v433 : Value).ownBlock ∧ k_ ≠ Ae ∧ k_ ≠ Ai ∧ k_ ≠ Aq ∧ k_ ≠ Ar)) ?hr ?hp (fun _ hk => hk) ((show ∀ k_, w61.heap.size ≤ k_ → (fun k_ => some k_ ≠ (v433 : Value).ownBlock ∧ k_ ≠ Ae ∧ k_ ≠ Ai ∧ k_ ≠ Aq ∧ k_ ≠ Ar) k_ from fun k_ hk => ⟨Kd.fresh' (Kd.N_lt (pN Bk.out)) k_ hk, kF Ab.out k_ hk, kF Ag.out k_ hk, kF Au.out k_ hk, kF Ax.out k_ hk⟩) _ (Nat.le_refl _)) (Below.refl _ _) (Nat.le_refl _) (by simp) ?_; (case hd => rfl); (case hg => rfl); (case hr => first | (go_simp; done) | (go_simp; rfl)); (case hp => exact (Reps.c10 (show Kd.FK k46 _ _ (⟨t418, t419, t420, t421, (⟨t422, t423, (⟨t426, t427, t428, t429⟩ : S42)⟩ : S44)⟩ : S46) [.int .i64 t418, .int .i64 t419, .int .i64 t420, .string t421, .bool t422, .slice Cg t423.length Ch, .int .i64 t426, .int .i64 t427, .int .i64 t428, .int .u32 t429] from (k46_mkF _ _ (⟨t418, t419, t420, t421, (⟨t422, t423, (⟨t426, t427, t428, t429⟩ : S42)⟩ : S44)⟩ : S46) (Kd.R_reads' (Kd.R_mono (ok' := (fun k_ => some k_ ≠ (v433 : Value).ownBlock ∧ k_ ≠ Ae ∧ k_ ≠ Ai ∧ k_ ≠ Aq ∧ k_ ≠ Ar)) (Kd.R_types (Kd.R_types (Kd.R_types (Kd.R_types (Kd.R_apart' (A4.out) (Kd.N_typed Bk.out) (by decide)) Ab.out (by decide)) Ag.out (by decide)) Au.out (by decide)) Ax.out (by decide)) (fun k_ hk => ⟨hk.1.1.1.1.2, ⟨hk.1.1.1.2, ⟨hk.1.1.2, ⟨hk.1.2, hk.2⟩⟩⟩⟩))).2.1 (Kd.R_F (Kd.R_mono (ok' := (fun k_ => some k_ ≠ (v433 : Value).ownBlock ∧ k_ ≠ Ae ∧ k_ ≠ Ai ∧ k_ ≠ Aq ∧ k_ ≠ Ar)) (Kd.R_types (Kd.R_types (Kd.R_types (Kd.R_types (Kd.R_apart' (A4.out) (Kd.N_typed Bk.out) (by decide)) Ab.out (by decide)) Ag.out (by decide)) Au.out (by decide)) Ax.out (by decide)) (fun k_ hk => ⟨hk.1.1.1.1.2, ⟨hk.1.1.1.2, ⟨hk.1.1.2, ⟨hk.1.2, hk.2⟩⟩⟩⟩))))) (Reps.none _ _))); intro v436 w64 ho65 hb hg_ hnew_; clear hg_ hnew_; (first | rw [← Ny435.out] at ho65 | (simp only [Int.reduceToNat] at ho65; rw [← Ny435.out] at ho65)); replace Aa := Am (Kd.V_elder' (pV Aa.out) (Kd.N_base ho65) hb); replace Ad := Am (Kd.V_elder' (pV Ad.out) (Kd.N_base ho65) hb); replace Bk := Am (Kd.N_elder' (pN Bk.out) (Kd.N_base ho65) hb); have B7 := Am (Kd.N_lower ho65 (below_size (pE4 HB.out As.out Av.out A2.out Bl.out))); replace Ab := kBa Ab hb; replace Ag := kBa Ag hb; replace Au := kBa Au hb; replace Ax := kBa Ax hb; replace HB := Am (below_step (pE4 HB.out As.out Av.out A2.out Bl.out) hb); clear A4 hb ho65; obtain ⟨Ao66, co66, Fc⟩ := Kd.N_slice Bk.out; subst Fc; obtain ⟨Ao67, co67, Fd⟩ := Kd.N_slice B7.out; subst Fd) | (go_at_call 13; (with_reducible refine (garnerref06_Same.calls kj27 _ _ y432 _ _ y435 true _ ?Az ?A1 ?B6 ?Du A41.out).mono ?_); (case Az => exact pC (Kd.N_reads' Bk.out).2.2); (case A1 => exact (Kd.N_reads' Bk.out).2.1); (case B6 => exact pC (Kd.N_reads' B7.out).2.2); (case Du => exact (Kd.N_reads' B7.out).2.1); rintro e w68 ⟨rfl, hb⟩; replace Aa := bVa Aa hb; replace Ad := bVa Ad hb; replace Bk := bNa Bk hb; replace B7 := bNa B7 hb; replace Ab := kBa Ab hb; replace Ag := kBa Ag hb; replace Au := kBa Au hb; replace Ax := kBa Ax hb; replace HB := Am (below_step (pE4 HB.out As.out Av.out A2.out Bl.out) hb); (try clear hb); (try clear hb2); (try clear hk); (try clear hi)))
       go_roundg kj27
       case measure => have := HK1.out; have := HK2.out; have := HJ27.out; omega
       case rel => exact ⟨(wrap64 (A8 + 1)), (by first | rfl | (simp; done) | (simp [*]; done)), H', ⟨by have := HK1.out; have := HK2.out; have := HJ27.out; omega⟩, ⟨by (with_reducible repeat (first | apply Kd.V_alloc | apply Kd.V_drewN | apply Kd.V_drew)); exact Kd.V_mono Aa.out (fun _ hk => ⟨hk.1.1.2.2.1, hk.1.1.2.2.2.1⟩)⟩, ⟨by (with_reducible repeat (first | apply Kd.V_alloc | apply Kd.V_drewN | apply Kd.V_drew)); exact Kd.V_mono Ad.out (fun _ hk => ⟨hk.1.1.2.2.1, hk.1.1.2.2.2.1⟩)⟩, ⟨pK Ab.out⟩, ⟨pK Ag.out⟩, ⟨pE4 HB.out As.out Av.out A2.out Bl.out⟩⟩
end Go.Proofs.Ytinldhpdfomcjaa.PRaftMay

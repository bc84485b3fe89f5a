/- Objects that are valid, by the code and by the reference. -/
import Derived.Test.YtpbepnpnpopmfaaGreatBV
import Derived.Deep.DeepCutAuto
import Derived.LoopTactic
import Derived.ProofKit
open Go.RowKit Go.Proofs.YtpbepnpnpopmfaaGreat
namespace Go.Proofs.YtpbepnpnpopmfaaGreat
open Plain
set_option linter.unusedVariables false
set_option linter.unusedSimpArgs false

def smB(n:Int):Bool:=decide (0<=n/\n<=99)
set_option maxRecDepth 100000 in
set_option maxHeartbeats 2000000 in
theorem small(n:Int)(w:World):Calls Tryz.prog 76 #[.int .i64 n] w fun e w' =>e= .returned (.bool (smB n))/\w=w':=by
 go_enter Tryz.func76,Tryz.ntmps76
 go_wp2
 all_goals
  go_returns
  exact⟨ret_bool (by unfold smB;first|exact(decide_eq_true (by omega)).symm|exact(decide_eq_false (by omega)).symm|(simp;omega)),rfl⟩
theorem smallc(n:Int)(v:Bool)(w:World)(hv:smB n=v):Calls Tryz.prog 76 #[.int .i64 n] w fun e w' =>e= .returned (.bool v)/\w=w':=by
 subst hv;exact small n w
set_option maxRecDepth 100000 in
set_option maxHeartbeats 2000000 in
theorem ovalid(o:Ob)(w:World):Calls Tryz.prog 85 #[.agg #[.int .i64 o.id,.int .i64 o.cd,.int .i64 o.ow,.int .i64 o.po,.int .i64 o.tg,.int .i64 o.da,.int .i64 o.co,.int .i64 o.pp,.int .i64 o.pt,.bool o.ta,.bool o.si,.bool o.dm]] w fun e w' =>e= .returned (.bool (vO o))/\Below w.heap.size w w':=by
 have i0:∀w,(Instr.index 148 (.agg #[.int .i64 o.po,.int .i64 o.tg,.int .i64 o.da,.int .i64 o.co,.int .i64 o.pp,.int .i64 o.pt]) (.int .i64 0)).run Tryz.prog w= .ok (.int .i64 o.po) w:=fun _=>by kernel_rfl
 have i1:∀w,(Instr.index 148 (.agg #[.int .i64 o.po,.int .i64 o.tg,.int .i64 o.da,.int .i64 o.co,.int .i64 o.pp,.int .i64 o.pt]) (.int .i64 1)).run Tryz.prog w= .ok (.int .i64 o.tg) w:=fun _=>by kernel_rfl
 have i2:∀w,(Instr.index 148 (.agg #[.int .i64 o.po,.int .i64 o.tg,.int .i64 o.da,.int .i64 o.co,.int .i64 o.pp,.int .i64 o.pt]) (.int .i64 2)).run Tryz.prog w= .ok (.int .i64 o.da) w:=fun _=>by kernel_rfl
 have i3:∀w,(Instr.index 148 (.agg #[.int .i64 o.po,.int .i64 o.tg,.int .i64 o.da,.int .i64 o.co,.int .i64 o.pp,.int .i64 o.pt]) (.int .i64 3)).run Tryz.prog w= .ok (.int .i64 o.co) w:=fun _=>by kernel_rfl
 have i4:∀w,(Instr.index 148 (.agg #[.int .i64 o.po,.int .i64 o.tg,.int .i64 o.da,.int .i64 o.co,.int .i64 o.pp,.int .i64 o.pt]) (.int .i64 4)).run Tryz.prog w= .ok (.int .i64 o.pp) w:=fun _=>by kernel_rfl
 have i5:∀w,(Instr.index 148 (.agg #[.int .i64 o.po,.int .i64 o.tg,.int .i64 o.da,.int .i64 o.co,.int .i64 o.pp,.int .i64 o.pt]) (.int .i64 5)).run Tryz.prog w= .ok (.int .i64 o.pt) w:=fun _=>by kernel_rfl
 by_cases a0:o.po<0
 ·skip
  go_enter Tryz.func85,Tryz.ntmps85;go_wp2_with fail
  refine wp_loop_rounds 1 ?_;rw[rounds_succ];go_wp2_with fail
  all_goals
   go_returns
   exact⟨ret_bool (by unfold vO;first|exact(decide_eq_true (by omega)).symm|exact(decide_eq_false (by omega)).symm|(rw[Bool.eq_iff_iff];simp;omega)),by go_grown⟩
 by_cases b0:99<o.po
 ·have c0:0<=o.po:=by omega
  go_enter Tryz.func85,Tryz.ntmps85;go_wp2_with fail
  refine wp_loop_rounds 1 ?_;rw[rounds_succ];go_wp2_with fail
  all_goals
   go_returns
   exact⟨ret_bool (by unfold vO;first|exact(decide_eq_true (by omega)).symm|exact(decide_eq_false (by omega)).symm|(rw[Bool.eq_iff_iff];simp;omega)),by go_grown⟩
 have c0:0<=o.po:=by omega
 by_cases a1:o.tg<0
 ·skip
  go_enter Tryz.func85,Tryz.ntmps85;go_wp2_with fail
  refine wp_loop_rounds 2 ?_;rw[rounds_succ];go_wp2_with fail
  rw[rounds_succ];go_wp2_with fail
  all_goals
   go_returns
   exact⟨ret_bool (by unfold vO;first|exact(decide_eq_true (by omega)).symm|exact(decide_eq_false (by omega)).symm|(rw[Bool.eq_iff_iff];simp;omega)),by go_grown⟩
 by_cases b1:99<o.tg
 ·have c1:0<=o.tg:=by omega
  go_enter Tryz.func85,Tryz.ntmps85;go_wp2_with fail
  refine wp_loop_rounds 2 ?_;rw[rounds_succ];go_wp2_with fail
  rw[rounds_succ];go_wp2_with fail
  all_goals
   go_returns
   exact⟨ret_bool (by unfold vO;first|exact(decide_eq_true (by omega)).symm|exact(decide_eq_false (by omega)).symm|(rw[Bool.eq_iff_iff];simp;omega)),by go_grown⟩
 have c1:0<=o.tg:=by omega
 by_cases a2:o.da<0
 ·skip
  go_enter Tryz.func85,Tryz.ntmps85;go_wp2_with fail
  refine wp_loop_rounds 3 ?_;rw[rounds_succ];go_wp2_with fail
  rw[rounds_succ];go_wp2_with fail
  rw[rounds_succ];go_wp2_with fail
  all_goals
   go_returns
   exact⟨ret_bool (by unfold vO;first|exact(decide_eq_true (by omega)).symm|exact(decide_eq_false (by omega)).symm|(rw[Bool.eq_iff_iff];simp;omega)),by go_grown⟩
 by_cases b2:99<o.da
 ·have c2:0<=o.da:=by omega
  go_enter Tryz.func85,Tryz.ntmps85;go_wp2_with fail
  refine wp_loop_rounds 3 ?_;rw[rounds_succ];go_wp2_with fail
  rw[rounds_succ];go_wp2_with fail
  rw[rounds_succ];go_wp2_with fail
  all_goals
   go_returns
   exact⟨ret_bool (by unfold vO;first|exact(decide_eq_true (by omega)).symm|exact(decide_eq_false (by omega)).symm|(rw[Bool.eq_iff_iff];simp;omega)),by go_grown⟩
 have c2:0<=o.da:=by omega
 by_cases a3:o.co<0
 ·skip
  go_enter Tryz.func85,Tryz.ntmps85;go_wp2_with fail
  refine wp_loop_rounds 4 ?_;rw[rounds_succ];go_wp2_with fail
  rw[rounds_succ];go_wp2_with fail
  rw[rounds_succ];go_wp2_with fail
  rw[rounds_succ];go_wp2_with fail
  all_goals
   go_returns
   exact⟨ret_bool (by unfold vO;first|exact(decide_eq_true (by omega)).symm|exact(decide_eq_false (by omega)).symm|(rw[Bool.eq_iff_iff];simp;omega)),by go_grown⟩
 by_cases b3:99<o.co
 ·have c3:0<=o.co:=by omega
  go_enter Tryz.func85,Tryz.ntmps85;go_wp2_with fail
  refine wp_loop_rounds 4 ?_;rw[rounds_succ];go_wp2_with fail
  rw[rounds_succ];go_wp2_with fail
  rw[rounds_succ];go_wp2_with fail
  rw[rounds_succ];go_wp2_with fail
  all_goals
   go_returns
   exact⟨ret_bool (by unfold vO;first|exact(decide_eq_true (by omega)).symm|exact(decide_eq_false (by omega)).symm|(rw[Bool.eq_iff_iff];simp;omega)),by go_grown⟩
 have c3:0<=o.co:=by omega
 by_cases a4:o.pp<0
 ·skip
  go_enter Tryz.func85,Tryz.ntmps85;go_wp2_with fail
  refine wp_loop_rounds 5 ?_;rw[rounds_succ];go_wp2_with fail
  rw[rounds_succ];go_wp2_with fail
  rw[rounds_succ];go_wp2_with fail
  rw[rounds_succ];go_wp2_with fail
  rw[rounds_succ];go_wp2_with fail
  all_goals
   go_returns
   exact⟨ret_bool (by unfold vO;first|exact(decide_eq_true (by omega)).symm|exact(decide_eq_false (by omega)).symm|(rw[Bool.eq_iff_iff];simp;omega)),by go_grown⟩
 by_cases b4:99<o.pp
 ·have c4:0<=o.pp:=by omega
  go_enter Tryz.func85,Tryz.ntmps85;go_wp2_with fail
  refine wp_loop_rounds 5 ?_;rw[rounds_succ];go_wp2_with fail
  rw[rounds_succ];go_wp2_with fail
  rw[rounds_succ];go_wp2_with fail
  rw[rounds_succ];go_wp2_with fail
  rw[rounds_succ];go_wp2_with fail
  all_goals
   go_returns
   exact⟨ret_bool (by unfold vO;first|exact(decide_eq_true (by omega)).symm|exact(decide_eq_false (by omega)).symm|(rw[Bool.eq_iff_iff];simp;omega)),by go_grown⟩
 have c4:0<=o.pp:=by omega
 by_cases a5:o.pt<0
 ·skip
  go_enter Tryz.func85,Tryz.ntmps85;go_wp2_with fail
  refine wp_loop_rounds 6 ?_;rw[rounds_succ];go_wp2_with fail
  rw[rounds_succ];go_wp2_with fail
  rw[rounds_succ];go_wp2_with fail
  rw[rounds_succ];go_wp2_with fail
  rw[rounds_succ];go_wp2_with fail
  rw[rounds_succ];go_wp2_with fail
  all_goals
   go_returns
   exact⟨ret_bool (by unfold vO;first|exact(decide_eq_true (by omega)).symm|exact(decide_eq_false (by omega)).symm|(rw[Bool.eq_iff_iff];simp;omega)),by go_grown⟩
 by_cases b5:99<o.pt
 ·have c5:0<=o.pt:=by omega
  go_enter Tryz.func85,Tryz.ntmps85;go_wp2_with fail
  refine wp_loop_rounds 6 ?_;rw[rounds_succ];go_wp2_with fail
  rw[rounds_succ];go_wp2_with fail
  rw[rounds_succ];go_wp2_with fail
  rw[rounds_succ];go_wp2_with fail
  rw[rounds_succ];go_wp2_with fail
  rw[rounds_succ];go_wp2_with fail
  all_goals
   go_returns
   exact⟨ret_bool (by unfold vO;first|exact(decide_eq_true (by omega)).symm|exact(decide_eq_false (by omega)).symm|(rw[Bool.eq_iff_iff];simp;omega)),by go_grown⟩
 have c5:0<=o.pt:=by omega
 go_enter Tryz.func85,Tryz.ntmps85;go_wp2_with fail
 refine wp_loop_rounds 7 ?_;rw[rounds_succ];go_wp2_with fail
 rw[rounds_succ];go_wp2_with fail
 rw[rounds_succ];go_wp2_with fail
 rw[rounds_succ];go_wp2_with fail
 rw[rounds_succ];go_wp2_with fail
 rw[rounds_succ];go_wp2_with fail
 rw[rounds_succ];go_wp2_with fail
 all_goals
  go_returns
  exact⟨ret_bool (by unfold vO;first|exact(decide_eq_true (by omega)).symm|exact(decide_eq_false (by omega)).symm|(rw[Bool.eq_iff_iff];simp;omega)),by go_grown⟩
set_option maxRecDepth 100000 in
set_option maxHeartbeats 2000000 in
theorem rvalid(o:Ob)(w:World):Calls Tryz.prog 44 #[.agg #[.int .i64 o.id,.int .i64 o.cd,.int .i64 o.ow,.int .i64 o.po,.int .i64 o.tg,.int .i64 o.da,.int .i64 o.co,.int .i64 o.pp,.int .i64 o.pt,.bool o.ta,.bool o.si,.bool o.dm]] w fun e w' =>e= .returned (.bool (vO o))/\Below w.heap.size w w':=by
 go_enter Tryz.func44,Tryz.ntmps44;go_wp2_with (go_in)
 all_goals
  go_returns
  exact⟨ret_bool (by unfold vO;first|exact(decide_eq_true (by omega)).symm|exact(decide_eq_false (by omega)).symm|(rw[Bool.eq_iff_iff];simp;omega)|(simp only[bne_iff_ne,bne_eq_false_iff_eq,ne_eq] at*;rw[Bool.eq_iff_iff];simp;omega)),by go_grown⟩
theorem ovalidc(o:Ob)(b:Bool)(w:World)(h:vO o=b):Calls Tryz.prog 85 #[.agg #[.int .i64 o.id,.int .i64 o.cd,.int .i64 o.ow,.int .i64 o.po,.int .i64 o.tg,.int .i64 o.da,.int .i64 o.co,.int .i64 o.pp,.int .i64 o.pt,.bool o.ta,.bool o.si,.bool o.dm]] w fun e w' =>e= .returned (.bool b)/\Below w.heap.size w w':=by
 subst h;exact ovalid o w
theorem rvalidc(o:Ob)(b:Bool)(w:World)(h:vO o=b):Calls Tryz.prog 44 #[.agg #[.int .i64 o.id,.int .i64 o.cd,.int .i64 o.ow,.int .i64 o.po,.int .i64 o.tg,.int .i64 o.da,.int .i64 o.co,.int .i64 o.pp,.int .i64 o.pt,.bool o.ta,.bool o.si,.bool o.dm]] w fun e w' =>e= .returned (.bool b)/\Below w.heap.size w w':=by
 subst h;exact rvalid o w
end Go.Proofs.YtpbepnpnpopmfaaGreat

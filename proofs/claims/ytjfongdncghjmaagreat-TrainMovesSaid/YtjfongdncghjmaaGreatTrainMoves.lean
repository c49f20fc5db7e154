/-
  The law TrainMoves of layer 31 answers true for every plan, state, trains and move, and never panics. Conditions: none.
-/
import Derived.Test.YtjfongdncghjmaaGreatRows
import Derived.Test.YtjfongdncghjmaaGreatSeat
import Derived.Test.YtjfongdncghjmaaGreatIds
import Derived.Test.YtjfongdncghjmaaGreatIns
import Derived.Test.YtjfongdncghjmaaGreatL34
namespace Go.Proofs.YtjfongdncghjmaaGreat
open Go.ChangeShapes Go.WideShapes Go.ChangeAt Go.RowKit Go.Eng Go.Lev
theorem own:ownKnob Tryz.prog.godebug=none:=by kernel_rfl
theorem laid:laidOutB Tryz.prog=true:=by kernel_rfl
def shapes:List Sh:=[shPln,zmD,shWorld,shMove]
theorem trainMoves_pcd (ds:List D) (hds:zd9 shapes ds):PC Tryz.prog Go.Eng.Tryz.inv 377 (znu shapes ds) (fun r=>r=.b true):=by
 have hH:=Go.Eng.Tryz.all
 have hI:=Go.Eng.Tryz.ids
 have hIn:=Go.Eng.Tryz.insAll
 obtain ⟨d0,ds,rfl,h0,hds⟩:=zaU hds
 obtain ⟨d1,ds,rfl,h1,hds⟩:=zaU hds
 obtain ⟨d2,ds,rfl,h2,hds⟩:=zaU hds
 obtain ⟨d3,ds,rfl,h3,hds⟩:=zaU hds
 obtain rfl:=zeO hds
 obtain ⟨x0,e0,hx0⟩:=arg_plan h0
 obtain ⟨x1,e1,hx1⟩:=arg_state h1
 obtain ⟨x2,e2⟩:=arg_world h2
 obtain ⟨x3,e3,hx3⟩:=arg_move h3
 simp only[shapes,znu,e0,e1,e2,e3]
 exact Go.Lev.trainMoves_pc hH hI hIn x0 hx0 x1 x2 x3 hx3
set_option maxRecDepth 100000 in
theorem trainMoves_lifted (os:Os) (started:os.Started) (H:Type) (enc:TypeId×Value->H) :
  ReturnsInHanded {} Tryz.checked os 3 .any (Rows.trainMovesSpec.pre6 enc Tryz.prog Tryz.f3 Rows.trainMovesRow.domain false) (Rows.trainMovesSpec.post enc Tryz.prog Tryz.f3 false true false false):=by
 refine returnsInHanded_of_change (C:=Tryz.checked) own started (by kernel_rfl) Tryz.func3
  (ChangeSpec.witness6 (enc:=enc) (C:=Tryz.checked) false ⟨#[],#[.agg #[.int .i64 0,.int .i64 0,.slice none 0 0,.slice none 0 0,.slice none 0 0,.slice none 0 0],.agg #[.slice none 0 0,.slice none 0 0,.slice none 0 0],.agg #[.slice none 0 0],.agg #[.int .u8 0,.int .i64 0,.int .i64 0,.int .i64 0]],[]⟩ 8 (by kernel_rfl) (by kernel_rfl) (by kernel_rfl) (by kernel_rfl)) ?_
 intro W base args ds gs before hval hW _ _
 exact law_of_pc (fn:=Tryz.f3) (s:=Rows.trainMovesSpec) (inv:=Go.Eng.Tryz.inv) (n:=40) (tb:=4) (Ss:=shapes) rfl laid (by kernel_rfl) (by kernel_rfl) (by kernel_rfl) (by kernel_rfl) rfl
  (fun l hl=>by rcases l with _|⟨a0,_|⟨a1,_|⟨a2,_|⟨a3,_|⟨z,l⟩⟩⟩⟩⟩<;>first|rfl|(simp[shapes]at hl;done)) trainMoves_pcd W base args ds gs before hval hW
theorem trainMoves_n:Tryz.checked.prog.funcNamed Rows.trainMovesRow.func=some 3:=by kernel_rfl
theorem trainMoves_c:joinedFacts Tryz.checked.prog 3 Tryz.f3 Rows.trainMovesSpec Rows.trainMovesRow=true:=by kernel_rfl
theorem trainMoves_i:Tryz.f3.isInstance Tryz.checked.prog Rows.trainMovesRow.origin Rows.trainMovesRow.targs:=of_decide_eq_true (by kernel_rfl)
theorem trainMoves_w:Tryz.f3.isWrapper Tryz.checked.prog Rows.trainMovesRow.wrapper Rows.trainMovesRow.mainSum:=by unfold Func.isWrapper;first|(rw[if_pos (by decide +kernel)];kernel_rfl)|(rw[if_neg (by decide +kernel)];exact ⟨rfl,rfl⟩)
theorem trainMoves_holds:Rows.TrainMovesSaid :=
 OpenClaim.holds_of_wide 3 Tryz.f3 rfl rfl rfl rfl rfl rfl rfl ⟨rfl,rfl,rfl,rfl,rfl⟩ rfl rfl rfl rfl rfl trainMoves_n Tryz.func3 trainMoves_c trainMoves_i trainMoves_w
  (fun os started H enc _=>trainMoves_lifted os started H enc)
end Go.Proofs.YtjfongdncghjmaaGreat

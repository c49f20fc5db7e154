/-
  Trains and moves, as they are handed in. Conditions: those that each theorem names.
-/
import Derived.Test.YtjfongdncghjmaaGreatL33
set_option linter.unusedSimpArgs false
set_option linter.unusedVariables false
set_option linter.unusedSectionVars false
namespace Go.Lev
open Go.Eng
def shTrain:Sh:=.st [.i .i64,.s 1 (.i .i64),.i .i64,.i .i64,.i .i64,.i .i64,.i .i64,.i .i64]
def shWorld:Sh:=.st [.s 8 shTrain]
def shMove:Sh:=.st [.i .u8,.i .i64,.i .i64,.i .i64]
theorem of_train (d:D) (h:Sh.ok shTrain d):∃ t:TrainD,Sh.av shTrain d=t.c/\True:=by
 obtain ⟨l,rfl,h⟩:=ziu h
 obtain ⟨d1,l,rfl,h1,h⟩:=zaU h
 obtain ⟨d2,l,rfl,h2,h⟩:=zaU h
 obtain ⟨d3,l,rfl,h3,h⟩:=zaU h
 obtain ⟨d4,l,rfl,h4,h⟩:=zaU h
 obtain ⟨d5,l,rfl,h5,h⟩:=zaU h
 obtain ⟨d6,l,rfl,h6,h⟩:=zaU h
 obtain ⟨d7,l,rfl,h7,h⟩:=zaU h
 obtain ⟨d8,l,rfl,h8,h⟩:=zaU h
 obtain rfl:=zeO h
 obtain ⟨a,rfl,-⟩:=zbI h1
 obtain ⟨p,ep,-⟩:=zqW h2
 obtain ⟨b3,rfl,-⟩:=zbI h3
 obtain ⟨b4,rfl,-⟩:=zbI h4
 obtain ⟨b5,rfl,-⟩:=zbI h5
 obtain ⟨b6,rfl,-⟩:=zbI h6
 obtain ⟨b7,rfl,-⟩:=zbI h7
 obtain ⟨b8,rfl,-⟩:=zbI h8
 exact ⟨⟨a,p,b3,b4,b5,b6,b7,b8⟩,by simp only[shTrain,Sh.av,zdt,ep,TrainD.c];rfl,trivial⟩
theorem arg_world {d:D} (h:Sh.ok shWorld d):∃ l:List TrainD,Sh.arg shWorld d=.agg (wld l):=by
 obtain ⟨l,rfl,h⟩:=ziu h
 obtain ⟨d1,l,rfl,h1,h⟩:=zaU h
 obtain rfl:=zeO h
 obtain ⟨s,es,-⟩:=zgj of_train h1
 exact ⟨s,by simp only[shWorld,Sh.arg,Sh.av,zdt,es,wld];rfl⟩
theorem arg_move {d:D} (h:Sh.ok shMove d):∃ m:MoveD,Sh.arg shMove d=.agg m.c/\0<=m.kind/\m.kind<=255:=by
 obtain ⟨l,rfl,h⟩:=ziu h
 obtain ⟨d1,l,rfl,h1,h⟩:=zaU h
 obtain ⟨d2,l,rfl,h2,h⟩:=zaU h
 obtain ⟨d3,l,rfl,h3,h⟩:=zaU h
 obtain ⟨d4,l,rfl,h4,h⟩:=zaU h
 obtain rfl:=zeO h
 obtain ⟨a,rfl,ha⟩:=of_u8 h1
 obtain ⟨b,rfl,-⟩:=zbI h2
 obtain ⟨c,rfl,-⟩:=zbI h3
 obtain ⟨e,rfl,-⟩:=zbI h4
 exact ⟨⟨a,b,c,e⟩,by simp only[shMove,Sh.arg,Sh.av,zdt,MoveD.c];rfl,ha.1,ha.2⟩
end Go.Lev

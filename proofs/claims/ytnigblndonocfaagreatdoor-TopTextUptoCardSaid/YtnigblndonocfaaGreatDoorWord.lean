/- A part of the proof. -/
set_option linter.unusedVariables false
set_option linter.unusedSimpArgs false
namespace Go.Proofs.YtnigblndonocfaaGreatDoor.W
def check (h l:List Bool):Nat:=if l.length=0 then 5 else if 64<h.length+l.length then 3 else 0
end Go.Proofs.YtnigblndonocfaaGreatDoor.W

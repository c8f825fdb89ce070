/- What any variable of any request is. -/
import Derived.Test.YtgpeehilemidlaaDoorPlain7
namespace Go.Proofs.YtgpeehilemidlaaDoor
open Go.Lib

def optP (o : Option Bs) : Bs × Bool := (o.getD [], o.isSome)
/-- A variable without a key. -/
def vwhole (h t : Bs) (fs : List Fld) (name : Bs) : Bs × Bool :=
  bif name == nHost then (h, !h.isEmpty) else
  bif name == nReferer then fget fs refererName else
  bif name == nAgent then fget fs agentName else
  bif name == nCookie then vcookies fs else
  bif name == nQuery then optP (vquery t) else
  bif name == nLang then fget fs langName else ([], false)
/-- One with a key that is one. -/
def vpart (t : Bs) (fs : List Fld) (name key : Bs) : Bs × Bool :=
  bif name == nHost then ([], false) else
  bif name == nReferer then ([], false) else
  bif name == nAgent then vua fs key else
  bif name == nCookie then optP (vcookie fs key) else
  bif name == nQuery then optP (bif t.contains 63 then vasked t key else none) else
  bif name == nLang then (langV (vlang fs key), vlang fs key) else ([], false)
def vget (h t : Bs) (fs : List Fld) (name key : Bs) (has : Bool) : Bs × Bool :=
  bif has then bif vkey key then vpart t fs name key else ([], false) else vwhole h t fs name
end Go.Proofs.YtgpeehilemidlaaDoor

-- by a program of this session
import Derived.BigFrame
namespace Go.Proofs.YthlnjbaichkipaaDoor.Long
open Lean in
/-- A list that is written out, laid before another. -/
partial def layAhead (a b : Lean.Expr) : Option Lean.Expr :=
  if a.isAppOfArity ``List.nil 1 then some b
  else if a.isAppOfArity ``List.cons 3 then (layAhead (a.getArg! 2) b).map fun r => mkApp3 a.getAppFn (a.getArg! 0) (a.getArg! 1) r
  else none
open Lean in
/-- A term's appended lists, where they are written out, as one. -/
partial def oneList (e : Lean.Expr) : Lean.Expr :=
  if e.isAppOfArity ``List.append 3 then
    let a := oneList (e.getArg! 1); let b := oneList (e.getArg! 2)
    (layAhead a b).getD e
  else e
open Lean Elab Tactic in
/-- A LONG REGION is dumped in pieces ('List.append'): the walk's steps want one list. -/
elab "go_unchunk" : tactic => withMainContext do
  let g ← getMainGoal
  let t := (← instantiateMVars (← g.getType)).consumeMData
  unless t.isAppOfArity ``Go.wpList 6 do throwError "go_unchunk: no list of operations"
  unless (t.getArg! 3).isAppOf ``List.append do throwError "go_unchunk: the list is written out"
  let args := t.getAppArgs
  let ops := args[1]!
  let ops := if ops.isAppOfArity ``List.toArray 2 then mkApp2 ops.getAppFn (ops.getArg! 0) (oneList (ops.getArg! 1)) else ops
  let t' := mkAppN t.getAppFn ((args.set! 1 ops).set! 3 (oneList args[3]!))
  replaceMainGoal [← g.replaceTargetDefEq t']
macro_rules | `(tactic| go_step) => `(tactic| go_unchunk)
end Go.Proofs.YthlnjbaichkipaaDoor.Long

import Derived.Test.YtombbpdpmagngaaGreatDoorPmQ
import Derived.Defers
import Derived.Recover
/-
 THE PURE MACHINE, Qh: a call whose body is walked in place: the caller's slots are laid aside.
-/
namespace PM
open Go Go.RowKit
section
variable {P:Program} {Gl:Nat→Option (List PV)} {s:PSt} {ops:Array Oper} {Q:PSt→Prop}
/-- The call at the head: function, and all that it gets. -/
def inlHd : List Oper→PSt→Option (FuncId×List PV)
 | o::_,s=>match o.guard,Ug o.op with
  | none,some (x,args)=>match s.ev x with
   | .fn f caps=>if caps.all Ps=true then some (f,args.map s.ev++caps) else none
   | _=>none
  | _,_=>none
 | [],_=>none
end
end PM
/-
 THE PURE MACHINE, Qi: labels and tokens get other names.
-/
namespace PM
open Go Go.RowKit
section
variable {ρ τ:Nat→Nat} {g:GG} {p:PV} {v:Value}
end
section
variable {Gl:Nat→Option (List PV)} {S0:Bs} {w0:World} {s:PSt} {a:Act} {g:GG} {ρ τ:Nat→Nat}
end
end PM
/-
 THE PURE MACHINE, Qj: calls that only read lists that nobody else holds, and return numbers: the lists stay as they are.
-/
namespace PM
open Go Go.RowKit
section
variable {P:Program} {Gl:Nat→Option (List PV)} {S0:Bs} {w0:World} {s:PSt} {a:Act} {g:GG}
def Jg4 (ts:List Nat):List (Oper×Gd)→PSt→Option (FuncId×List PV×List (Nat×Nat))
 | (o,.always)::_,s=>match Ug o.op with
  | some (x,args)=>match s.ev x with
   | .fn f caps=>if caps.all Ps=true then (Sk ts s (args.map s.ev++caps)).map fun q=>(f,q) else none
   | _=>none
  | none=>none
 | _,_=>none
/-- A call that reads lists that nobody else holds (those of the tokens ts). -/
theorem Jpx {Ls:List (Oper×Gd)} {Q:PSt→Prop} {f:FuncId} {as:List PV} {r:PV} (ts:List Nat) (hc:Km P Gl f as r) (h0:(Jg4 ts Ls s).map (fun x=>(x.1,Xc as x.2.1,x.2.2.map (·.1)))=(Jg4 ts Ls s).map (fun x=>(f,as,x.2.2.map (·.2)))) (hs0:(Jg4 ts Ls s).isSome=true) (hs:Jr1 r=true)
  (h2:Kp P Gl false (Ls.drop 1) (s.put (Vd Ls) r) Q):Kp P Gl false Ls s Q:=by
 obtain ⟨y0,h⟩:=Option.isSome_iff_exists.1 hs0
 rw [h] at h0
 obtain ⟨f0,qs,eqs⟩:=y0
 simp only [Option.map_some,Option.some.injEq,Prod.mk.injEq] at h0
 obtain ⟨rfl,hdc,heq⟩:=h0
 unfold Jg4 at h
 split at h
 ·rename_i s0 o rest
  split at h
  ·rename_i x args hco
   split at h
   ·rename_i f' caps e1
    split at h
    ·rename_i hcapok
     obtain ⟨qs',e3,h'⟩:=Option.map_eq_some_iff.1 h
     simp only [Prod.mk.injEq] at h'
     obtain ⟨rfl,h'⟩:=h'
     subst h'
     obtain ⟨c,hop,hcal,hargs⟩:=Dn hco
     obtain ⟨⟨fn,hfn1,hfn2,hfn3⟩,hcall⟩:=hc
     refine Rh (n:=s) (v:=r) (by rw [hop]; rfl) ?_ h2
     intro S0 w0 a g K Q' hg hK
     have hx:=hg.ev x
     rw [e1] at hx
     simp only [Rel,Kx,Ks] at hx
     obtain ⟨arr,hfv,hcaps⟩:=hx
     have hcapsR:Ko (Rel g) caps arr.toList:=⟨hcaps.1,fun i p v hp hv=>by
      have h1:=hcaps.2 i p v hp hv
      have h2:=List.all_eq_true.1 hcapok p (List.mem_of_getElem? hp)
      cases p <;> simp only [Ps] at h2 <;> try cases h2
      all_goals exact h1⟩
     have hall:Ko (Rel g) (args.map s.ev++caps) (args.map a.eval++arr.toList):=Ko.append ⟨by simp,fun i p v hp hv=>by
      rw [List.getElem?_map] at hp hv
      cases hi:args[i]? with
      | none=>rw [hi] at hp; cases hp
      | some y=>rw [hi] at hp hv; cases hp; cases hv; exact hg.ev y⟩ hcapsR
     obtain ⟨S1,b1,b2,b3,b4⟩:=hg.borrow ts
     have hD:=Sh (ps:=as) (Jey hg b1 b4 hall e3 heq)
     rw [hdc] at hD
     have hrun:(execOp a.eval o).run P g.w=.ok (.enter f' ((args.map a.eval++arr.toList).toArray)) g.w:=by
      have hname:fn.name ≠ "runtime.NumGoroutine" := by simpa using hfn2
      have hbody:fn.body≠none:=fun e=>by rw [e] at hfn3; cases hfn3
      have hca:c.args.map a.eval++arr=(args.map a.eval++arr.toList).toArray:=Array.toList_inj.1 (by simp [hargs])
      simp [execOp,hop,resolve,hcal,hfv,Deferred.ofValue,invoke,callFunc,run_program,hfn1,hname,hbody]
      simpa using hca
     unfold Oper.wp
     rw [hrun]
     refine (hcall S1 g.w _ b2 b3 (by simpa using hD)).mono fun e w' he=>?_
     obtain ⟨v,g',rfl,rfl,ha⟩:=he
     obtain ⟨k1,k2⟩:=hg.grow' ha.below
     exact hK v { g with w:=g'.w } k1 k2 (Jhk hs ha.rel)
    ·cases h
   ·cases h
  ·cases h
 ·cases h
end
end PM
/-
 THE PURE MACHINE, Qk: a list that is written out, and that nobody else holds.
-/
namespace PM
open Go Go.RowKit
section
variable {α:Type} [Enc α] {P:Program} {Gl:Nat→Option (List PV)} {s:PSt} {Q:PSt→Prop} {Ls:List (Oper×Gd)}
end
end PM
/-
 THE PURE MACHINE, Ql: the end of a list that may grow: a slice that takes over the room (a new token), and tokens that change names.
-/
namespace PM
open Go Go.RowKit
section
variable {P:Program} {Gl:Nat→Option (List PV)} {S0:Bs} {w0:World} {s:PSt} {a:Act} {g:GG}
end
section
variable {α:Type} [Enc α] {P:Program} {Gl:Nat→Option (List PV)} {s:PSt} {Ls:List (Oper×Gd)} {Q:PSt→Prop}
end
end PM
/-
 THE PURE MACHINE, Qm: a body that defers one call of a closure, which is walked in place at each return.
-/
namespace PM
open Go Go.RowKit
/-- How deep a recursive function may call itself. -/
def Hw : Nat:=4194304
section
variable {P:Program} {Gl:Nat→Option (List PV)} {s:PSt}
variable {Q QD:Exit→PSt→Prop} {x y:Code}
end
end PM
/-
 THE PURE MACHINE, Qn: functions that may panic (PCallP), regions that end so.
-/
namespace PM
open Go Go.RowKit
/-- A panic with a value, which nobody has recovered yet. -/
def Jw6 (ch:List PanicEntry):Prop:=∃ t v,ch=[{ v:=.iface t v,recovered:=false }]
/-- A CONTRACT with panics: none: the function panics. -/
def PCallP (P:Program) (Gl:Nat→Option (List PV)) (f:FuncId) (args:List PV) (o:Option PV):Prop :=
 Jn4 P f∧∀ (S:Kz) (w:World) (vs:Array Value),(∀ B o,S B o→B<w.heap.size)→(∀ i cs,Gl i=some cs→Dq S w cs i)→Ko (Jy S w) args vs.toList →
  Calls P f vs w fun e w'=>(∃ r v g',o=some r∧e=.returned v∧g'.w=w'∧Jk3 S w r v g')∨(∃ ch g',o=none∧e=.panicked ch∧Jw6 ch∧g'.w=w'∧Jk3 S w (.tup []) (.tuple #[]) g')
section
variable {P:Program} {Gl:Nat→Option (List PV)} {s:PSt}
/-! ### Results and ways out -/
/-! ### Regions with several ways out -/
variable {ops:Array Oper} {Q:Exit→PSt→Prop}
end
end PM
/-
 THE PURE MACHINE, Qo: a deferred closure that recovers.
-/
namespace PM
open Go Go.RowKit
section
variable {P:Program} {Gl:Nat→Option (List PV)} {s:PSt}
/-- What recover hands on, and the question whether it is nil. -/
structure RecOps (P:Program) (o0 o1:Oper) (d0 d1:Nat):Prop where
 g0:o0.guard=none
 g1:o1.guard=none
 e0:o0.dst=some d0
 e1:o1.dst=some d1
 r0:∀ (a:Act) (w:World),(execOp a.eval o0).run P w=.ok .recover w
 r1:∀ (a:Act) (w:World) (t:TypeId) (v:Value),a.eval (.tmp d0)=.iface t v→(execOp a.eval o1).run P w=.ok (.value (.bool true)) w
 r2:∀ (a:Act) (w:World),a.eval (.tmp d0)=.nilIface→(execOp a.eval o1).run P w=.ok (.value (.bool false)) w
/-! ### Bodies -/
end
end PM

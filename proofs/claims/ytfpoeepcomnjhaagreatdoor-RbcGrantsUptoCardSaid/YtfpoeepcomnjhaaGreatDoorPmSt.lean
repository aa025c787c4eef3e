import Derived.Test.YtfpoeepcomnjhaaGreatDoorPmO
import Derived.Laws.BytesString
/-
 THE PURE MACHINE, St: strings: one behind the other; of bytes. No project text. Nothing here is trusted.
-/
namespace PM
open Go Go.RowKit
section
variable {P:Program} {Gl:GL} {s:PSt} {Ls:List (Oper×Gd)} {Q:PSt->Prop}
def Jh8(a b:ByteArray):Option ByteArray:=if a.size+b.size<=9223372036854775807 then some (a++b) else none
def Ka0(a b:ByteArray):Option (PV×Eff):=(if a.size+b.size<=9223372036854775807 then some (PV.str (a++b)) else none).map fun v=>(v,Eff.none)
theorem Jlq{d:Bool}{a b M:ByteArray}(hM:Jh8 a b=some M)(h:Nb P Gl Ls s=Ka0 a b)(h2:Jy P Gl d (Ls.drop 1) (s.put (Uk Ls) (.str M)) Q):Jy P Gl d Ls s Q:=by
 refine Cu (e:=.none) ?_ h2;rw [h];unfold Jh8 at hM;unfold Ka0;split at hM
 ·rename_i h0;cases hM;rw [if_pos h0]; rfl
 ·cases hM
def bytesOf(ns:List Int):ByteArray:=ns.foldl (fun r n=>r.push (UInt8.ofNat n.toNat)) ByteArray.empty
def Kjf(P:Program)(src dst:TypeId):Bool:=match P.underlying src with
 | some (.slice e)=>(match P.underlying e with|some (.int .u8)=>Jk9 P dst|_=>false)
 | _=>false
def Kfq(P:Program):List (Oper×Gd)->PSt->Option (List (List PV))
 | (o,.always)::_,s=>match o.op with
  | .convert src dst x=>match s.ev x with
   | .lst .full k _ xss=>if Kjf P src dst=true/\k=1 then some xss else none
   | _=>none
  | _=>none
 | _,_=>none
theorem Jos : ∀ (ns:List Int),(ns.map fun n=>([.int .u8 n]:List PV)).flatten=ns.map (fun n=>(.int .u8 n:PV))
 | []=>rfl
 | n::r=>by rw [bT,bX,Jos r]; rfl
theorem Kjs{ns:List Int}(h:Kfq P Ls s=some (ns.map fun n=>[.int .u8 n]))(h2:Jy P Gl false (Ls.drop 1) (s.put (Uk Ls) (.str (bytesOf ns))) Q):Jy P Gl false Ls s Q:=by
 unfold Kfq at h;split at h
 ·rename_i s0 o rest;split at h
  ·rename_i src dst x hop;split at h
   ·rename_i k b xss e1;split at h
    ·rename_i hc;obtain ⟨hbt,rfl⟩:=hc;cases h;refine Jay (n:=s) (v:=.str (bytesOf ns)) (by rw [hop]; rfl) ?_ h2;intro S0 w0 a g K Q' hg hK;have hx:=hg.ev x;rw [e1] at hx;have hD:Jv g.S g.w (.lst .frozen 1 b (ns.map fun n=>[.int .u8 n])) (a.eval x):=Jv.unfull hx;obtain ⟨base,cap,hv,_,_,hnil,vs,v1,v2,_,v4⟩:=Jex hD;have hvs:vs=ns.map (Value.int .u8):=by
      rw [Jos] at v2;refine dB fun j=>?_;cases hj:ns[j]? with
      | none=>
       rw [aN,hj,bY]
       ·rfl
       ·rw [<- v2.1,aV]; exact List.getElem?_eq_none_iff.1 hj
      | some n=>
       obtain ⟨u,hu,hr⟩:=v2.right (i:=j) (x:=.int .u8 n) (by rw [aN,hj]; rfl);have:u=.int .u8 n:=by simpa [Jv] using hr.1
       rw [hu,aN,hj,this]; rfl
     have hrun:(Conv.bytesToString (a.eval x)).run P g.w=.ok (.string (bytesOf ns)) g.w:=by
      rw [hv];cases base with
      | none=>
       have h0:ns=[]:=by simpa using (hnil rfl).2
       subst h0;simp [Conv.bytesToString,bytesOf]
      | some ad=>
       have hq:=hD;simp only [Jv] at hq;rw [hv] at hq;obtain ⟨_,_,_,⟨_,q⟩|⟨B,off,_,q,_⟩⟩:=hq
       ·have h0:ns=[]:=by simpa using q
        subst h0;have:=run_bytesToString (P:=P) g.w ad 0 cap [] (by simp [loadCells,loadCellsFrom]);exact this
       ·simp only [Value.slice.injEq,aP] at q;rw [q.1];refine run_bytesToString _ _ _ _ ns ?_;have:=run_loadCells_list (P:=P) g.w ⟨B,off,none⟩ vs (fun j u hu=>by
         have:=(v4 B off (by rw [q.1])).2 j u hu;cases j <;> simpa [Addr.add] using this)
        rw [hvs] at this
        simpa using this
     have hfull:(execOp a.eval o).run P g.w=.ok (.value (.string (bytesOf ns))) g.w:=by
      unfold Kjf at hbt;split at hbt
      ·rename_i e he;split at hbt
       ·rename_i he2;have hst:=Jbd hbt;rw [hv] at hrun;simp only [execOp,hop];rw [hv];simp only [Sem.run_map,Sem.run_bind,run_convert_bytes_string g.w src dst e _ _ _ he he2 hst,hrun]
        rfl
       ·cases hbt
      ·cases hbt
     unfold Oper.wp;rw [hfull];exact hK _ g hg (GLe.refl g) (by simp [Rel,Ks,Kk,Jv])
    ·cases h
   ·cases h
  ·cases h
 ·cases h
end
end PM

import Derived.Test.YtamejbkifpjhiaaGreatDoorMz0
import Derived.Test.YtamejbkifpjhiaaGreatDoorRows
set_option linter.unusedVariables false
namespace Go.Proofs.YtamejbkifpjhiaaGreatDoor
open Go.Ab Go.RowKit
theorem qdA {H:Type} (d:DataW H):1 ≤ Rows.uptoBulk d:=by
 cases d with
 | lit l=>cases l<;>simp [Rows.uptoBulk]
 | nil=>simp [Rows.uptoBulk]
 | ptr d=>simp [Rows.uptoBulk]
 | slice a b=>simp [Rows.uptoBulk]
 | agg a=>simp [Rows.uptoBulk]
 | iface _ d=>simp [Rows.uptoBulk]
 | map a=>simp [Rows.uptoBulk]
 | held _=>simp [Rows.uptoBulk]
theorem Vw {H:Type} : ∀ l:List (DataW H),l.length ≤ Rows.uptoBulkAll l
 | []=>by simp
 | d :: r=>by
   have h1:=qdA d
   have h2:=Vw r
   simp only [Rows.uptoBulkAll,List.length_cons];omega
theorem kG {a b B m:Nat} (h:m ≤ a * B) (hab:a ≤ b):m ≤ b * B:=Nat.le_trans h (Nat.mul_le_mul_right _ hab)
def Xb (P:Program) (B:Nat):Nat → TypeId → Bool
 | 0,_=>false
 | n + 1,t=>match P.underlying t with
   | some (.slice e)=>decide (P.bytesOf e ≤ B) && Xb P B n e
   | some (.struct fs)=>(fs.toList.map (·.type)).all (Xb P B n)
   | some (.pointer e)=>Xb P B n e
   | some (.array _ _)=>false
   | some (.map _ _)=>false
   | _=>true
section
variable {H:Type} {P:Program} {B:Nat} (h1:1 ≤ B)
mutual
theorem qaG (h1:1 ≤ B) : ∀ (d:DataW H) (n:Nat) (t:TypeId) (hf:Xb P B n t = true) (m:Nat),m ∈ d.weights P t → m ≤ Rows.uptoBulk d * B
 | d,0,t,hf,m,h=>by simp [Xb] at hf
 | .lit (.string bytes),n + 1,t,hf,m,h=>by
   simp only [DataW.weights,List.mem_singleton] at h
   subst h
   simp only [Rows.uptoBulk]
   exact Nat.le_trans (Nat.le_succ _) (Nat.le_mul_of_pos_right _ h1)
 | .lit (.bool _),n + 1,t,hf,m,h=>by simp [DataW.weights] at h
 | .lit (.int _ _),n + 1,t,hf,m,h=>by simp [DataW.weights] at h
 | .lit (.float _ _),n + 1,t,hf,m,h=>by simp [DataW.weights] at h
 | .lit .nil,n + 1,t,hf,m,h=>by simp [DataW.weights] at h
 | .nil,n + 1,t,hf,m,h=>by simp [DataW.weights] at h
 | .ptr d,n + 1,t,hf,m,h=>by
   simp only [DataW.weights] at h
   split at h
   ·rename_i e he
    simp only [Xb,he] at hf
    exact kG (qaG h1 d n _ hf m h) (by simp [Rows.uptoBulk])
   ·cases h
 | .slice a b,n + 1,t,hf,m,h=>by
   simp only [DataW.weights] at h
   split at h
   ·rename_i e he
    simp only [Xb,he,Bool.and_eq_true,decide_eq_true_eq] at hf
    have hx:Rows.uptoBulkAll a + Rows.uptoBulkAll b ≤ Rows.uptoBulk (.slice a b):=by simp [Rows.uptoBulk]
    rcases List.mem_cons.1 h with rfl|h
    ·have ha:=Vw a
     have hb:=Vw b
     exact Nat.mul_le_mul (by omega) hf.1
    ·rcases List.mem_append.1 h with h|h
     ·exact kG (Y7 h1 a n _ hf.2 m h) (by omega)
     ·exact kG (Y7 h1 b n _ hf.2 m h) (by omega)
   ·cases h
 | .agg a,n + 1,t,hf,m,h=>by
   simp only [DataW.weights] at h
   split at h
   ·rename_i fs he
    simp only [Xb,he] at hf
    exact kG (JZ h1 a n _ hf m h) (by simp [Rows.uptoBulk])
   ·rename_i he
    simp only [Xb,he] at hf
    cases hf
   ·cases h
 | .iface _ d,n + 1,t,hf,m,h=>by simp [DataW.weights] at h
 | .map a,n + 1,t,hf,m,h=>by
   simp only [DataW.weights] at h
   split at h
   ·rename_i he
    simp only [Xb,he] at hf
    cases hf
   ·cases h
 | .held _,n + 1,t,hf,m,h=>by simp [DataW.weights] at h
theorem Y7 (h1:1 ≤ B) : ∀ (l:List (DataW H)) (n:Nat) (e:TypeId) (hf:Xb P B n e = true) (m:Nat),m ∈ DataW.weightsAll P e l → m ≤ Rows.uptoBulkAll l * B
 | [],n,e,hf,m,h=>by simp [DataW.weightsAll] at h
 | d :: r,n,e,hf,m,h=>by
   simp only [DataW.weightsAll,List.mem_append] at h
   rcases h with h|h
   ·exact kG (qaG h1 d n e hf m h) (by simp [Rows.uptoBulkAll])
   ·exact kG (Y7 h1 r n e hf m h) (by simp [Rows.uptoBulkAll])
theorem JZ (h1:1 ≤ B) : ∀ (l:List (DataW H)) (n:Nat) (ts:List TypeId) (hf:ts.all (Xb P B n) = true) (m:Nat),m ∈ DataW.weightsEach P ts l → m ≤ Rows.uptoBulkAll l * B
 | [],n,ts,hf,m,h=>by cases ts<;>simp [DataW.weightsEach] at h
 | d :: r,n,[],hf,m,h=>by simp [DataW.weightsEach] at h
 | d :: r,n,t :: ts,hf,m,h=>by
   simp only [List.all_cons,Bool.and_eq_true] at hf
   simp only [DataW.weightsEach,List.mem_append] at h
   rcases h with h|h
   ·exact kG (qaG h1 d n t hf.1 m h) (by simp [Rows.uptoBulkAll])
   ·exact kG (JZ h1 r n ts hf.2 m h) (by simp [Rows.uptoBulkAll])
end
end
end Go.Proofs.YtamejbkifpjhiaaGreatDoor

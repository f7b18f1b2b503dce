/-
  The marks are read again. Own work.
-/
import Derived.Test.YtldhpaflmnlcaaaGreatDoorQC
import Derived.Test.YtldhpaflmnlcaaaGreatDoorQB
set_option linter.all false
namespace Go.Proofs.YtldhpaflmnlcaaaGreatDoor
open Go.RowKit
set_option maxRecDepth 100000 in
set_option maxHeartbeats 2000000 in
theorem heldNodeS_any (v:Value) (n:Nat) (k:Int) (w:World) (hv:NdsAt w v (mkNds n k)) (hn:n≤1048576) (h0:0≤k) (h1:k≤8388608) :
  Calls Tryz.prog 76 #[v,.int .i64 k] w fun e w'=>e = .returned (.int .i64 (k+3 * n))∧Below w.heap.size w w':=by
 obtain ⟨a,cap,rfl,hc,hat⟩:=hv
 have hat':∀ i:Nat,i < n → ∃ b o,a = some ⟨b,o,none⟩∧NdAt w (mkNd (k+3 * i)) b (o+i * 3):=fun i hi=>by
  obtain ⟨b,o,e,h,r⟩:=hat i (by rw [mkNds_length];exact hi)
  rw [mkNds_get] at r
  exact ⟨b,o,e,r⟩
 clear hat
 rw [mkNds_length] at hc ⊢
 go_enter Tryz.func76,Tryz.ntmps76
 go_wp2
 go_loopw [1,5] (fun kv iv wr=>∃ i:Nat,i≤n∧iv = .int .i64 i∧kv = .int .i64 (k+3 * i)∧Below w.heap.size w wr) (fun _ iv _=>n - (intOf iv).toNat)
 case atStart=>exact ⟨0,by omega,rfl,by simp,Below.refl _ _⟩
 case round =>
  obtain ⟨i,hi,rfl,rfl,hbel⟩:=hrel
  by_cases hlt:i < n
  ·obtain ⟨b,o,rfl,hnd⟩:=hat' i hlt
   obtain ⟨c0,c1,c2⟩:=hnd.keep hbel
   simp only [mkNd] at c0 c1 c2
   have e0:(k+3 * (i:Int) != k+3 * i) = false:=by simp
   have e1:(k+3 * (i:Int)+1 != k+3 * i+1) = false:=by simp
   have hbz:=cell_lt c0
   rw [show k+3 * (i:Int)+2 = k+3 * i+1+1 by omega] at c2
   clear hat' hnd
   go_wp2
   refine region_acts (C:=Exc (NoT) _) 2 [0,1,2,3,4,5,6,7] (by kernel_rfl) (by kernel_rfl) (Exc.grows _ _) (Exc.refl _ _) ?_
   iterate 6 (refine x_st rfl rfl rfl fun K hK=>?_;apply Exists.intro;refine ⟨fun u hc' hf'=>?_,?_⟩;(focus (try simp only [World.size_drew] at hc' hf');go_simp <;> rfl);go_simp;refine hK _ _ _ ?_;clear hK K)
   refine x_call rfl rfl rfl (Exc.grows _ _) (Exc.refl _ _) 72 (fun K hK=>?_);apply Exists.intro;refine ⟨fun w' hw'=>?_,fun w' hw' hbw=>?_⟩;(focus go_simp;rfl);refine (markText_any _ _ (by omega) (by omega)).mono ?_;rintro e w3 ⟨rfl,hb3⟩;refine ⟨_,rfl,hb3,fun hx=>?_⟩;go_simp;refine hK _ _ _ ?_;clear hK K
   iterate 1 (refine x_st rfl rfl rfl fun K hK=>?_;apply Exists.intro;refine ⟨fun u hc' hf'=>?_,?_⟩;(focus (try simp only [World.size_drew] at hc' hf');go_simp <;> rfl);go_simp;refine hK _ _ _ ?_;clear hK K)
   refine x_nil ?_
   go_wp2
   go_roundw
   case rel=>exact ⟨i+1,by omega,by go_num,by go_num,hbel.trans (((Below.refl wr.heap.size wr).drew.trans (hx.toBelow.mono (by simp))).mono hbel.size)⟩
   case measure=>simp [intOf];omega
  ·have hii:i = n:=by omega
   subst hii
   go_wp2
   go_ret
   exact ⟨rfl,hbel⟩
theorem heldTerm_any (v:Value) (n:Nat) (k:Int) (w:World) (hv:NdsAt w v (mkNds n k)) (hn:n≤1048576) (h0:0≤k) (h1:k≤8388608) :
  Calls Tryz.prog 32 #[.agg #[v],.int .i64 k] w fun e w'=>e = .returned (.int .i64 (k+3 * n))∧Below w.heap.size w w':=by
 obtain ⟨a,cap,rfl⟩:=hv.slice
 have hp:¬ (k+3 * (n:Int) < 0):=by omega
 go_enter Tryz.func32,Tryz.ntmps32
 go_wp2_with (go_at_call 76;refine (heldNodeS_any _ n _ _ (hv.keep (alloc_below _ _)) hn h0 h1).mono ?_;rintro e w2 ⟨rfl,hb2⟩)
 go_ret
 exact ⟨rfl,(alloc_below _ _).trans (hb2.mono (by simp))⟩
theorem heldDef_any (v:Value) (d:Df) (n:Nat) (k:Int) (w:World) (hv:NdsAt w v (mkNds n k)) (hn:n≤1048576) (h0:0≤k) (h1:k≤8388608) :
  Calls Tryz.prog 24 #[.agg #[.string d.name,.int .i64 d.inn,.int .i64 d.out,v],.int .i64 k] w fun e w'=>e = .returned (.int .i64 (k+3 * n))∧Below w.heap.size w w':=by
 obtain ⟨a,cap,rfl⟩:=hv.slice
 have hp:¬ (k+3 * (n:Int) < 0):=by omega
 go_enter Tryz.func24,Tryz.ntmps24
 go_wp2_with (go_at_call 32;refine (heldTerm_any _ n _ _ (hv.keep (alloc_below _ _)) hn h0 h1).mono ?_;rintro e w2 ⟨rfl,hb2⟩)
 go_ret
 exact ⟨rfl,(alloc_below _ _).trans (hb2.mono (by simp))⟩
theorem heldEntry_any (v:Value) (d:En) (n:Nat) (k:Int) (w:World) (hv:NdsAt w v (mkNds n k)) (hn:n≤1048576) (h0:0≤k) (h1:k≤8388608) :
  Calls Tryz.prog 50 #[.agg #[.int .i64 d.kind,.string d.name,.string d.to,v],.int .i64 k] w fun e w'=>e = .returned (.int .i64 (k+3 * n))∧Below w.heap.size w w':=by
 obtain ⟨a,cap,rfl⟩:=hv.slice
 have hp:¬ (k+3 * (n:Int) < 0):=by omega
 go_enter Tryz.func50,Tryz.ntmps50
 go_wp2_with (go_at_call 32;refine (heldTerm_any _ n _ _ (hv.keep (alloc_below _ _)) hn h0 h1).mono ?_;rintro e w2 ⟨rfl,hb2⟩)
 go_ret
 exact ⟨rfl,(alloc_below _ _).trans (hb2.mono (by simp))⟩
theorem mkDs_length (L:List Df) (k:Int):(mkDs L k).length = L.length:=by simp [mkDs]
theorem mkDs_get (L:List Df) (k:Int) (i:Nat) (h:i < (mkDs L k).length):(mkDs L k)[i] = mkDf (L[i]'(by rw [← mkDs_length L k];exact h)) (k+mkLen (L.take i)):=by simp [mkDs]
theorem mkLen_le (L:List Df) (i:Nat):0≤mkLen (L.take i)∧mkLen (L.take i)≤mkLen L:=by
 have:=lenD_le (L.map fun d=>(d,undef)) i
 simpa [lenD,List.map_take,Function.comp_def] using this
set_option maxRecDepth 100000 in
set_option maxHeartbeats 2000000 in
theorem heldDefS_any (v:Value) (L:List Df) (k:Int) (w:World) (hv:DfsAt w v (mkDs L k)) (hn:L.length≤1048576) (hb:∀ d ∈ L,d.body.length≤1048576) (h0:0≤k) (h1:k+mkLen L≤8388608) :
  Calls Tryz.prog 27 #[v,.int .i64 k] w fun e w'=>e = .returned (.int .i64 (k+mkLen L))∧Below w.heap.size w w':=by
 obtain ⟨a,cap,rfl,hc,hat⟩:=hv
 have hat':∀ (i:Nat) (hi:i < L.length),∃ b o,a = some ⟨b,o,none⟩∧DfAt w (mkDf L[i] (k+mkLen (L.take i))) b (o+i * 4):=fun i hi=>by
  obtain ⟨b,o,e,h,r⟩:=hat i (by rw [mkDs_length];exact hi)
  rw [mkDs_get] at r
  exact ⟨b,o,e,r⟩
 clear hat
 rw [mkDs_length] at hc ⊢
 go_enter Tryz.func27,Tryz.ntmps27
 go_wp2
 go_loopw [1,5] (fun kv iv wr=>∃ i:Nat,i≤L.length∧iv = .int .i64 i∧kv = .int .i64 (k+mkLen (L.take i))∧Below w.heap.size w wr) (fun _ iv _=>L.length - (intOf iv).toNat)
 case atStart=>exact ⟨0,by omega,rfl,by simp [mkLen],Below.refl _ _⟩
 case round =>
  obtain ⟨i,hi,rfl,rfl,hbel⟩:=hrel
  by_cases hlt:i < L.length
  ·obtain ⟨b,o,rfl,hnd⟩:=hat' i hlt
   obtain ⟨c0,c1,c2,vb,c3,hvb⟩:=hnd.keep hbel
   simp only [mkDf] at c0 c1 c2 hvb
   obtain ⟨va,vc,rfl⟩:=hvb.slice
   have hlen:=mkLen_le L i
   have hlen2:=mkLen_le L (i+1)
   have hstep:=mkLen_take L i hlt
   have hbl:=hb L[i] (List.getElem_mem _)
   obtain ⟨q,hq⟩:∃ q,q = k+mkLen (L.take i):=⟨_,rfl⟩
   rw [← hq] at c0 c1 c2 hvb ⊢
   have hq0:0≤q∧q+1+1+1≤8388608:=by omega
   have hq1:q+1+1+1+3 * (L[i].body.length:Int) = k+mkLen (L.take (i+1)):=by rw [hstep];omega
   have hq2:¬ (q+1+1+1+3 * (L[i].body.length:Int) < 0):=by omega
   have HQ:=Lib.hid hq1
   have e1:(q+1 != q+1) = false:=by simp
   have e2:(q+1+1 != q+1+1) = false:=by simp
   have hbz:=cell_lt c0
   rw [mkNds_length] at c3 hvb
   clear hat' hnd hq hq1 hstep
   go_wp2_with fail
   refine region_acts (C:=Exc (NoT) _) 2 [0,1,2,3,4,5,6,7] (by kernel_rfl) (by kernel_rfl) (Exc.grows _ _) (Exc.refl _ _) ?_
   iterate 6 (refine x_st rfl rfl rfl fun K hK=>?_;apply Exists.intro;refine ⟨fun u hc' hf'=>?_,?_⟩;(focus (try simp only [World.size_drew] at hc' hf');go_simp <;> rfl);go_simp;refine hK _ _ _ ?_;clear hK K)
   refine x_call rfl rfl rfl (Exc.grows _ _) (Exc.refl _ _) 72 (fun K hK=>?_);apply Exists.intro;refine ⟨fun w' hw'=>?_,fun w' hw' hbw=>?_⟩;(focus go_simp;rfl);refine (markText_any _ _ (by omega) (by omega)).mono ?_;rintro e w3 ⟨rfl,hb3⟩;refine ⟨_,rfl,hb3,fun hx=>?_⟩;go_simp;refine hK _ _ _ ?_;clear hK K
   iterate 1 (refine x_st rfl rfl rfl fun K hK=>?_;apply Exists.intro;refine ⟨fun u hc' hf'=>?_,?_⟩;(focus (try simp only [World.size_drew] at hc' hf');go_simp <;> rfl);go_simp;refine hK _ _ _ ?_;clear hK K)
   refine x_nil ?_
   have hb3':Below wr.heap.size wr w3:=(Below.refl wr.heap.size wr).drew.trans (hx.toBelow.mono (by simp))
   obtain ⟨hc3,hf3,hs3⟩:=bcell hb3'
   go_wp2_with (go_at_call 76;refine (heldNodeS_any _ L[i].body.length _ _ (hvb.keep hb3') hbl (by omega) (by omega)).mono ?_;rintro e w4 ⟨rfl,hb4⟩)
   go_roundw
   case rel=>exact ⟨i+1,by omega,by go_num,by rw [HQ.out],hbel.trans ((hb3'.trans (hb4.mono hs3)).mono hbel.size)⟩
   case measure=>simp [intOf];omega
  ·have hii:i = L.length:=by omega
   subst hii
   go_wp2
   go_ret
   rw [List.take_length]
   exact ⟨rfl,hbel⟩
end Go.Proofs.YtldhpaflmnlcaaaGreatDoor

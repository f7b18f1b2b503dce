/-
  strings.Replacer: bytes are replaced by bytes. Own work.
-/
import Derived.Test.YtbljmfcifljkaaaGreatDoorUSY
import Derived.Test.YtbljmfcifljkaaaGreatDoorULW
import Derived.Lib.AppendIntMem
import Derived.Test.YtbljmfcifljkaaaGreatDoorUC
set_option linter.all false
set_option maxRecDepth 100000
set_option maxHeartbeats 8000000
namespace Go.Proofs.YtbljmfcifljkaaaGreatDoor
open Go.RowKit
set_option maxRecDepth 100000
set_option maxHeartbeats 4000000
structure BufAt (g:Nat → Nat) (l:List UInt8) (i:Nat) (w wr:World) (gb:Nat):Prop where
 lo:w.heap.size≤gb
 hi:gb<wr.heap.size
 cell:∀ j (h:j<l.length),wr.cell? ⟨gb,j,none⟩=some (.int .u8 ((if j<i then UInt8.ofNat (g l[j].toNat) else l[j]).toNat:Int))
 froz:∀ j,j<l.length → wr.frozen? ⟨gb,j,none⟩=false
theorem BufAt.next {g:Nat → Nat} {l:List UInt8} {i:Nat} {w wr:World} {gb:Nat} (h:BufAt g l i w wr gb) (hi:i<l.length) (hg:g l[i].toNat=l[i].toNat):BufAt g l (i+1) w wr gb:=by
 refine ⟨h.lo,h.hi,fun j hj=>?_,h.froz⟩
 rw [h.cell j hj]
 by_cases e:j=i
 ·subst e
  rw [if_neg (by omega),if_pos (by omega),hg]
  simp
 ·by_cases e2:j<i
  ·rw [if_pos e2,if_pos (by omega)]
  ·rw [if_neg e2,if_neg (by omega)]
theorem BufAt.put {g:Nat → Nat} {l:List UInt8} {i:Nat} {w wr:World} {gb:Nat} (h:BufAt g l i w wr gb) (hi:i<l.length) (hg:g l[i].toNat<256):BufAt g l (i+1) w (wr.setCell ⟨gb,i,none⟩ (.int .u8 (g l[i].toNat:Int))) gb:=by
 refine ⟨h.lo,by rw [setCell_size];exact h.hi,fun j hj=>?_,fun j hj=>by rw [World.frozen?_setCell];exact h.froz j hj⟩
 by_cases e:j=i
 ·subst e
  rw [World.cell?_setCell_same _ _ _ (h.cell j hj),if_pos (by omega),UInt8.toNat_ofNat_of_lt' (by have:UInt8.size=256:=rfl;omega)]
 ·rw [World.cell?_setCell_other _ ⟨gb,i,none⟩ ⟨gb,j,none⟩ _ (by simp only [ne_eq,Addr.mk.injEq,not_and];omega),h.cell j hj]
  by_cases e2:j<i
  ·rw [if_pos e2,if_pos (by omega)]
  ·rw [if_neg e2,if_neg (by omega)]
theorem byteReplace_any (tb:Nat) (g:Nat → Nat) (s:ByteArray) (w:World) (hT:TabAt w tb 341 256 (fun j=>.int .u8 (g j:Int))) (hg:∀ j,j<256 → g j<256) (hs:s.size≤1000) :
  Calls Tryz.prog 389 #[.pointer (some ⟨tb,0,none⟩),.string s] w fun e w'=>e=.returned (.string (bytesOf (s.data.toList.map fun c=>UInt8.ofNat (g c.toNat))))∧Below w.heap.size w w':=by
 have hsl:s.data.toList.length=s.size:=by simp
 have hgi:∀ j (h:j<s.size),s.data.toList[j]'(by omega)=s[j]:=fun j h=>rfl
 go_enter Tryz.func389,Tryz.ntmps389
 go_wp2_with fail
 go_loopw [5,6] (fun bv iv wr=>∃ i:Nat,i≤s.size∧iv=.int .i64 (i:Int)∧Below w.heap.size w wr∧((bv=.slice none 0 0∧∀ j (h:j<s.size),j<i → g s[j].toNat=s[j].toNat)∨∃ gb cap,bv=.slice (some ⟨gb,0,none⟩) s.size cap∧BufAt g s.data.toList i w wr gb)) (fun _ iv _=>s.size - (intOf iv).toNat)
 case atStart=>exact ⟨0,by omega,rfl,Below.refl _ _,.inl ⟨rfl,fun j h a=>by omega⟩⟩
 case round =>
  obtain ⟨i,hi,rfl,hB,hbuf⟩:=hrel
  by_cases hlt:i<s.size
  ·have i1:(i:Int)<(s.size:Int):=by omega
   have i2:IntKind.i64.wrap ((i:Int)+1)=(i:Int)+1:=IntWalk.i64_in _ (by omega)
   have hb256:s[i].toNat<256:=s[i].toNat_lt
   have tc:=(hT.keep hB).cell s[i].toNat hb256
   have tz:=(hT.keep hB).lt
   have hgb:=hg _ hb256
   obtain ⟨q,hq⟩:∃ q,g s[i].toNat=q:=⟨_,rfl⟩
   simp only [hq] at tc
   rw [hq] at hgb
   have HQ:=Lib.hid hq
   clear hq
   by_cases hch:q=s[i].toNat
   ·have h1:((q:Int) != (s[i].toNat:Int))=false:=by simp [hch]
    have HCH:=Lib.hid hch
    clear hch
    rcases hbuf with ⟨rfl,hno⟩|⟨gb,cap,rfl,hbf⟩
    ·have HNO:=Lib.hid hno
     clear hno
     go_wp2
     go_roundw
     case rel=>exact ⟨i+1,by omega,by go_num,hB,.inl ⟨rfl,fun j h a=>by
      rcases Nat.lt_or_ge j i with h2|h2
      ·exact HNO.out j h h2
      ·obtain rfl:j=i:=by omega
       rw [HQ.out,HCH.out]⟩⟩
     case measure=>simp [intOf];omega
    ·have hnx:=hbf.next (by omega) (by show g s[i].toNat=s[i].toNat;rw [HQ.out,HCH.out])
     go_wp2
     go_roundw
     case rel=>exact ⟨i+1,by omega,by go_num,hB,.inr ⟨gb,cap,rfl,hnx⟩⟩
     case measure=>simp [intOf];omega
   ·have h1:((q:Int) != (s[i].toNat:Int))=true:=by simp;omega
    clear hch
    rcases hbuf with ⟨rfl,hno⟩|⟨gb,cap,rfl,hbf⟩
    ·have hcv:=Lib.run_convert_string_bytes (P:=Tryz.prog) wr 9 142 5 s (u:=.string) Tryz.underlying9 Tryz.underlying142 Tryz.underlying5
     have hB5:Below wr.heap.size wr (Lib.bytesWorld wr 5 s):=by
      refine ⟨rfl,rfl,rfl,by rw [Lib.bytesWorld_size];omega,fun j hj=>Lib.bytesWorld_at_old _ _ _ j hj⟩
     have hz6:=Lib.bytesWorld_size wr 5 s
     have hc6:=Lib.bytesWorld_cell wr 5 s
     have hb6:=Lib.bytesWorld_at_new wr 5 s
     obtain ⟨W6,hW6⟩:∃ W,W=Lib.bytesWorld wr 5 s:=⟨_,rfl⟩
     rw [← hW6] at hcv hB5 hz6 hc6 hb6
     clear hW6
     obtain ⟨gc,hgc⟩:∃ gc,gc=grownCap wr s.size 0 5:=⟨_,rfl⟩
     rw [← hgc] at hcv
     clear hgc
     have hbf:BufAt g s.data.toList i w W6 wr.heap.size:=by
      refine ⟨hB.size,by omega,fun j hj=>?_,fun j hj=>?_⟩
      ·have h2:=hc6 j (by omega)
       have h3:s.data.toList.getD j 0=s.data.toList[j]:=by rw [List.getD_eq_getElem?_getD,List.getElem?_eq_getElem hj];rfl
       rw [h3] at h2
       rw [h2]
       by_cases hji:j<i
       ·rw [if_pos hji]
        have h4:=hno j (by omega) hji
        have h5:g s.data.toList[j].toNat=s.data.toList[j].toNat:=h4
        rw [h5]
        simp
       ·rw [if_neg hji]
      ·have hsz:s.size≤(Lib.bytesCells wr 5 s).size:=by
        unfold Lib.bytesCells
        rw [Array.size_append,Array.size_map]
        exact Nat.le_add_right _ _
       unfold World.frozen?
       rw [hb6]
       have:¬ (Lib.bytesCells wr 5 s).size≤j:=by omega
       simp [this]
     have hput:=hbf.put (i:=i) (by omega) (by show g s[i].toNat<256;rw [HQ.out];exact hgb)
     have e9:g (s.data.toList[i]'(by omega)).toNat=q:=HQ.out
     rw [e9] at hput
     have oc:=hbf.cell i (by omega)
     have of:=hbf.froz i (by omega)
     have oz:=hbf.hi
     have tc6:=cell_keep hB5 tc
     have tz6:=cell_lt tc6
     have HNO:=Lib.hid hno
     clear hno hc6 hb6 hz6
     go_wp2
     apply_assumption
     go_wp2
     go_roundw
     case rel=>exact ⟨i+1,by omega,by go_num,(hB.trans (hB5.mono hB.size)).setCell hB.size _,.inr ⟨_,gc,rfl,hput⟩⟩
     case measure=>simp [intOf];omega
    ·have hput:=hbf.put (i:=i) (by omega) (by show g s[i].toNat<256;rw [HQ.out];exact hgb)
     have e9:g (s.data.toList[i]'(by omega)).toNat=q:=HQ.out
     rw [e9] at hput
     have oc:=hbf.cell i (by omega)
     have of:=hbf.froz i (by omega)
     have oz:=hbf.hi
     have ol:=hbf.lo
     go_wp2
     apply_assumption
     go_wp2
     go_roundw
     case rel=>exact ⟨i+1,by omega,by go_num,hB.setCell ol _,.inr ⟨gb,cap,rfl,hput⟩⟩
     case measure=>simp [intOf];omega
  ·obtain rfl:i=s.size:=by omega
   rcases hbuf with ⟨rfl,hno⟩|⟨gb,cap,rfl,hbf⟩
   ·have hres:s=bytesOf (s.data.toList.map fun c=>UInt8.ofNat (g c.toNat)):=by
     apply ByteArray.ext
     apply Array.toList_inj.1
     show s.data.toList=(s.data.toList.map fun c=>UInt8.ofNat (g c.toNat)).toArray.toList
     rw [List.toList_toArray]
     apply List.ext_getElem (by simp)
     intro j h1 h2
     rw [List.getElem_map]
     have h5:g s.data.toList[j].toNat=s.data.toList[j].toNat:=hno j (by simpa using h1) (by simpa using h1)
     rw [h5]
     simp
    have HR:=Lib.hid hres
    clear hres hno
    go_wp2
    apply_assumption
    go_wp2
    go_ret
    exact ⟨by rw [← HR.out];rfl,hB⟩
   ·have hcl:∀ j (hj:j<(s.data.toList.map fun c=>UInt8.ofNat (g c.toNat)).length),wr.cell? ⟨gb,j,none⟩=some (.int .u8 (((s.data.toList.map fun c=>UInt8.ofNat (g c.toNat))[j]).toNat:Int)):=by
     intro j hj
     have hj':j<s.data.toList.length:=by simpa using hj
     rw [hbf.cell j hj',if_pos (by omega),List.getElem_map]
    have hcv2:=conv_bytes wr gb cap (s.data.toList.map fun c=>UInt8.ofNat (g c.toNat)) s.size (by simp) hcl
    have oz:=hbf.hi
    clear hcl
    go_wp2
    apply_assumption
    go_wp2
    go_ret
    exact ⟨rfl,hB⟩
end Go.Proofs.YtbljmfcifljkaaaGreatDoor
/-
  strings.Replacer: the first Replace with bytes for all letters. Own work.
-/
namespace Go.Proofs.YtbljmfcifljkaaaGreatDoor
open Go.RowKit
set_option maxRecDepth 100000
set_option maxHeartbeats 4000000
structure RpHas (w:World) (b:Nat) (c:Int) (m:Int) (r:Value):Prop where
 c0:w.cell? ⟨b,0,none⟩=some (.int .u32 c)
 c1:w.cell? ⟨b,1,none⟩=some (.int .i32 m)
 c3:w.cell? ⟨b,3,none⟩=some r
 fz:∀ j,w.frozen? ⟨b,j,none⟩=false
def BuP (P:World → Value → Prop) (b:Nat) (w w':World):Prop:=∃ r,RpHas w' b 0 1 r∧P w' r∧Exc (fun k=>k=b) w w'
theorem buildOnce_any {b:Nat} (P:World → Value → Prop) (hP:∀ (w w':World) (r:Value) (a:Addr) (u:Value),P w r → a.block=b → w'=w.setCell a u → P w' r) (v:Value) (w:World)
  (c0:w.cell? ⟨b,0,none⟩=some (.int .u32 0)) (c1:w.cell? ⟨b,1,none⟩=some (.int .i32 1)) (c3:w.cell? ⟨b,3,none⟩=some .nilIface) (c4:w.cell? ⟨b,4,none⟩=some v) (fz:∀ j,w.frozen? ⟨b,j,none⟩=false)
  (hb:Calls Tryz.prog 227 #[.pointer (some ⟨b,0,none⟩)] w fun e w'=>∃ r,e=.returned r∧P w' r∧Below w.heap.size w w') (hv:∃ x y z,v=.slice x y z) (hr:∀ w' r,P w' r → ∃ t p,r=.iface t p) :
  Calls Tryz.prog 166 #[.pointer (some ⟨b,0,none⟩)] w fun e w'=>e=.returned (.tuple #[])∧BuP P b w w':=by
 have bz:=cell_lt c0
 obtain ⟨x,y,z,rfl⟩:=hv
 go_enter Tryz.func166,Tryz.ntmps166
 go_wp2_with fail
 refine hb.mono ?_
 rintro e w1 ⟨r,rfl,hp,hb1⟩
 obtain ⟨t,p,rfl⟩:=hr w1 r hp
 have d0:=cell_keep hb1 c0
 have d1:=cell_keep hb1 c1
 have d3:=cell_keep hb1 c3
 have d4:=cell_keep hb1 c4
 have dz:=cell_lt d0
 have df:∀ j,w1.frozen? ⟨b,j,none⟩=false:=fun j=>(hb1.frozen (p:=⟨b,j,none⟩) bz).trans (fz j)
 go_wp2
 go_end0
 refine ⟨rfl,.iface t p,⟨by go_simp,by go_simp,by go_simp,fun j=>by simp [df j]⟩,?_,?_⟩
 ·exact hP _ _ _ ⟨b,4,none⟩ _ (hP _ _ _ ⟨b,3,none⟩ _ hp rfl rfl) rfl rfl
 ·exact exc_set (T:=fun k=>k=b) (a:=⟨b,4,none⟩) (exc_set (T:=fun k=>k=b) (a:=⟨b,3,none⟩) (Below.exc hb1) (.inr rfl) _) (.inr rfl) _
def TabP (g:Nat → Nat) (b:Nat) (w:World) (r:Value):Prop:=∃ tb,r=.iface 342 (.pointer (some ⟨tb,0,none⟩))∧tb ≠ b∧TabAt w tb 341 256 (fun j=>.int .u8 (g j:Int))
theorem TabP.set {g:Nat → Nat} {b:Nat}:∀ (w w':World) (r:Value) (a:Addr) (u:Value),TabP g b w r → a.block=b → w'=w.setCell a u → TabP g b w' r:=by
 rintro w w' r a u ⟨tb,h1,h2,h3⟩ ha rfl
 refine ⟨tb,h1,h2,?_⟩
 unfold TabAt
 rw [Below.heap_setCell _ _ _ _ (by rw [ha];exact h2)]
 exact h3
theorem replace_first (g:Nat → Nat) (hg:∀ j,j<256 → g j<256) (b:Nat) (v:Value) (xs:List ByteArray) (s:ByteArray) (w:World) (h:RpNew w b v xs) (hv:∃ x y z,v=.slice x y z) (hs:s.size≤1000)
  (hb:∀ W,W.cell? ⟨b,4,none⟩=some v → OnAt W v xs → Calls Tryz.prog 227 #[.pointer (some ⟨b,0,none⟩)] W fun e w'=>∃ r,e=.returned r∧TabP g b w' r∧Below W.heap.size W w')
  (hon:OnAt (w.setCell ⟨b,1,none⟩ (.int .i32 1)) v xs) :
  Calls Tryz.prog 96 #[.pointer (some ⟨b,0,none⟩),.string s] w fun e w'=>e=.returned (.string (bytesOf (s.data.toList.map fun c=>UInt8.ofNat (g c.toNat)))) ∧
   (∃ r,RpHas w' b 1 0 r∧TabP g b w' r)∧Exc (fun k=>k=b) w w':=by
 have bz:=cell_lt h.c0
 have hbo:=buildOnce_any (TabP g b) TabP.set v (w.setCell ⟨b,1,none⟩ (.int .i32 1)) ((World.cell?_setCell_other _ ⟨b,1,none⟩ ⟨b,0,none⟩ _ (by simp)).trans h.c0) (World.cell?_setCell_same _ _ _ h.c1)
  ((World.cell?_setCell_other _ ⟨b,1,none⟩ ⟨b,3,none⟩ _ (by simp)).trans h.c3) ((World.cell?_setCell_other _ ⟨b,1,none⟩ ⟨b,4,none⟩ _ (by simp)).trans h.c4) (fun j=>by rw [World.frozen?_setCell];exact h.fz j)
  (hb _ ((World.cell?_setCell_other _ ⟨b,1,none⟩ ⟨b,4,none⟩ _ (by simp)).trans h.c4) hon) hv (fun w' r ⟨tb,h1,_⟩=>⟨_,_,h1⟩)
 go_enter Tryz.func96,Tryz.ntmps96
 go_wp2_with fail
 refine (do_first b (BuP (TabP g b) b (w.setCell ⟨b,1,none⟩ (.int .i32 1))) w h.c0 h.c1 (h.fz 1) hbo (fun w' ⟨r,hh,_⟩=>⟨hh.c0,hh.c1,hh.fz 0,hh.fz 1⟩)).mono ?_
 rintro e w2 ⟨rfl,w1,⟨r,hh,⟨tb,rfl,htb,hT⟩,hx⟩,rfl⟩
 have k0:(onceDone w1 b).cell? ⟨b,0,none⟩=some (.int .u32 1):=by
  unfold onceDone
  rw [World.cell?_setCell_other _ ⟨b,1,none⟩ ⟨b,0,none⟩ _ (by simp)]
  exact World.cell?_setCell_same _ _ _ ((World.cell?_drew _ _).trans hh.c0)
 have k1:(onceDone w1 b).cell? ⟨b,1,none⟩=some (.int .i32 0):=by
  unfold onceDone
  exact World.cell?_setCell_same _ _ _ ((World.cell?_setCell_other _ ⟨b,0,none⟩ ⟨b,1,none⟩ _ (by simp)).trans ((World.cell?_drew _ _).trans hh.c1))
 have k3:(onceDone w1 b).cell? ⟨b,3,none⟩=some (.iface 342 (.pointer (some ⟨tb,0,none⟩))):=by
  unfold onceDone
  rw [World.cell?_setCell_other _ ⟨b,1,none⟩ ⟨b,3,none⟩ _ (by simp),World.cell?_setCell_other _ ⟨b,0,none⟩ ⟨b,3,none⟩ _ (by simp)]
  exact (World.cell?_drew _ _).trans hh.c3
 have kz:=cell_lt k3
 have kf:∀ j,(onceDone w1 b).frozen? ⟨b,j,none⟩=false:=fun j=>by unfold onceDone;simp [hh.fz j]
 have hT2:TabP g b (onceDone w1 b) (.iface 342 (.pointer (some ⟨tb,0,none⟩))) :=
  TabP.set _ _ _ ⟨b,1,none⟩ _ (TabP.set (w1.drew) _ _ ⟨b,0,none⟩ _ ⟨tb,rfl,htb,(hT.keep ((Below.refl _ _).drew))⟩ rfl rfl) rfl rfl
 have hT3:TabAt (onceDone w1 b) tb 341 256 (fun j=>.int .u8 (g j:Int)):=by
  obtain ⟨tb',e,_,hh⟩:=hT2
  simp only [Value.iface.injEq,Value.pointer.injEq,Option.some.injEq,Addr.mk.injEq,and_true,true_and] at e
  rw [e];exact hh
 have hE:Exc (fun k=>k=b) w (onceDone w1 b):=by
  unfold onceDone
  exact exc_set (T:=fun k=>k=b) (a:=⟨b,1,none⟩) (exc_set (T:=fun k=>k=b) (a:=⟨b,0,none⟩) ((exc_set (T:=fun k=>k=b) (a:=⟨b,1,none⟩) (Exc.refl _ w) (.inr rfl) _).trans (hx.trans (Below.exc (Below.refl w1.heap.size w1).drew))) (.inr rfl) _) (.inr rfl) _
 obtain ⟨W2,hW2⟩:∃ W,W=onceDone w1 b:=⟨_,rfl⟩
 rw [← hW2] at k0 k1 k3 kz kf hT2 hT3 hE ⊢
 have hm : ∀ (x : Value) (w : World), Sem.run Tryz.prog (method 549 342 x "Replace") w = .ok (389, x) w := fun _ _ => by kernel_rfl
 clear hW2 hT hh hx hbo hb hon h
 go_wp2_with fail
 refine (byteReplace_any tb g s _ hT3 hg hs).mono ?_
 rintro e w3 ⟨rfl,hb3⟩
 go_wp2_with fail
 go_ret
 refine ⟨rfl,⟨_,⟨cell_keep hb3 k0,cell_keep hb3 k1,cell_keep hb3 k3,fun j=>(hb3.frozen (p:=⟨b,j,none⟩) kz).trans (kf j)⟩,tb,rfl,htb,hT3.keep hb3⟩,hE.trans (Below.exc hb3)⟩
theorem replace_later (g:Nat → Nat) (hg:∀ j,j<256 → g j<256) (b:Nat) (r:Value) (s:ByteArray) (w:World) (h:RpHas w b 1 0 r) (hT:TabP g b w r) (hs:s.size≤1000) :
  Calls Tryz.prog 96 #[.pointer (some ⟨b,0,none⟩),.string s] w fun e w'=>e=.returned (.string (bytesOf (s.data.toList.map fun c=>UInt8.ofNat (g c.toNat))))∧RpHas w' b 1 0 r∧TabP g b w' r∧Below w.heap.size w w':=by
 obtain ⟨tb,rfl,htb,hT3⟩:=hT
 have k3:=h.c3
 have kz:=cell_lt k3
 have hm : ∀ (x : Value) (w : World), Sem.run Tryz.prog (method 549 342 x "Replace") w = .ok (389, x) w := fun _ _ => by kernel_rfl
 go_enter Tryz.func96,Tryz.ntmps96
 go_wp2_with fail
 refine (do_done b _ w h.c0).mono ?_
 rintro e w2 ⟨rfl,hw2⟩
 obtain rfl:w=w2:=hw2.symm
 go_wp2_with fail
 refine (byteReplace_any tb g s _ hT3 hg hs).mono ?_
 rintro e w3 ⟨rfl,hb3⟩
 go_wp2_with fail
 go_ret
 exact ⟨rfl,⟨cell_keep hb3 h.c0,cell_keep hb3 h.c1,cell_keep hb3 h.c3,fun j=>(hb3.frozen (p:=⟨b,j,none⟩) kz).trans (h.fz j)⟩,⟨tb,rfl,htb,hT3.keep hb3⟩,hb3⟩
end Go.Proofs.YtbljmfcifljkaaaGreatDoor

/-
  Rows of numbers that are apart, one of them grows; the reference's hgId. Own work.
-/
import Derived.Test.YtbljmfcifljkaaaGreatDoorYGD
set_option linter.all false
set_option maxRecDepth 100000
set_option maxHeartbeats 8000000
namespace Go.Proofs.YtbljmfcifljkaaaGreatDoor
open Go.RowKit
set_option maxRecDepth 100000
set_option maxHeartbeats 1000000
def RowsL (w:World) (B:Nat) (xs:List (Value × List Int)):Prop:=(∀ x ∈ xs,Rw w B x.1 x.2)∧xs.Pairwise fun x y=>∀ j,x.1.ownBlock=some j → y.1.ownBlock=some j → False
theorem RowsL.keep {w w':World} {B:Nat} {xs:List (Value × List Int)} (hb:Below w.heap.size w w') (h:RowsL w B xs):RowsL w' B xs:=⟨fun x hx=>(h.1 x hx).keep hb,h.2⟩
theorem RowsL.setB {w:World} {B b:Nat} {xs:List (Value × List Int)} {t:TypeId} {cs:Array Value} (h:RowsL w B xs) (kb:Bk w b t cs) (h2:3 ≠ t) (j:Nat) (u:Value):RowsL (w.setCell ⟨b,j,none⟩ u) B xs :=
 ⟨fun x hx=>(h.1 x hx).setB kb h2 j u,h.2⟩
theorem RowsL.app {w w':World} {B:Nat} {pre post:List (Value × List Int)} {v v':Value} {l l':List Int} (h:RowsL w B (pre ++ (v,l) :: post)) (hg:w.grownBy w' v.ownBlock) (hv:Rw w' B v' l') (hb:v'.ownBlock=v.ownBlock∨v'.ownBlock=some w.heap.size) :
  RowsL w' B (pre ++ (v',l') :: post):=by
 obtain ⟨h1,h2⟩:=h
 rw [List.pairwise_append] at h2
 obtain ⟨p1,p2,p3⟩:=h2
 rw [List.pairwise_cons] at p2
 obtain ⟨p4,p5⟩:=p2
 have hlt:∀ x ∈ pre ++ (v,l) :: post,∀ j,x.1.ownBlock=some j → j<w.heap.size:=fun x hx j hj=>(World.ownsRow.lt (h1 x hx) j hj).2
 have mv:∀ x ∈ pre ++ (v,l) :: post,(∀ j,x.1.ownBlock=some j → v.ownBlock=some j → False) → Rw w' B x.1 x.2:=fun x hx ha=>(h1 x hx).grown hg fun k hk e=>ha k hk e
 have fresh:∀ x ∈ pre ++ (v,l) :: post,(∀ j,x.1.ownBlock=some j → v.ownBlock=some j → False) → ∀ j,x.1.ownBlock=some j → v'.ownBlock=some j → False:=fun x hx ha j hj hj'=>by
  rcases hb with hb|hb
  ·exact ha j hj (hb ▸ hj')
  ·rw [hb] at hj'
   have:=hlt x hx j hj
   simp at hj';omega
 have apre:∀ x ∈ pre,∀ j,x.1.ownBlock=some j → v.ownBlock=some j → False:=fun x hx j h1 h2=>p3 x hx (v,l) (by simp) j h1 h2
 have apost:∀ x ∈ post,∀ j,x.1.ownBlock=some j → v.ownBlock=some j → False:=fun x hx j h1 h2=>p4 x hx j h2 h1
 refine ⟨fun x hx=>?_,?_⟩
 ·rcases List.mem_append.1 hx with hx|hx
  ·exact mv x (by simp [hx]) (apre x hx)
  ·rcases List.mem_cons.1 hx with rfl|hx
   ·exact hv
   ·exact mv x (by simp [hx]) (apost x hx)
 ·rw [List.pairwise_append,List.pairwise_cons]
  refine ⟨p1,⟨fun y hy j hj hj'=>fresh y (by simp [hy]) (apost y hy) j hj' hj,p5⟩,fun x hx y hy=>?_⟩
  rcases List.mem_cons.1 hy with rfl|hy
  ·exact fun j hj hj'=>fresh x (by simp [hx]) (apre x hx) j hj hj'
  ·exact p3 x hx y (by simp [hy])
theorem upL_succ (k:Nat):upL (k+1)=upL k ++ [(k:Int)]:=by simp [upL,List.range_succ]
theorem fromL_succ (a k:Nat):fromL a (k+1)=fromL a k ++ [((k+a:Nat):Int)]:=by simp [fromL,List.range_succ]
theorem hgId_any (n:Nat) (w:World) (hn:n≤1000):Calls Tryz.prog 290 #[.int .i64 n] w (GrMk (idI n) w):=by
 have hA1:=alloc_below w (.cells #[.int .i64 0,.slice none 0 0,.slice none 0 0,.slice none 0 0] 53)
 have hA2:=alloc_below (w.alloc (.cells #[.int .i64 0,.slice none 0 0,.slice none 0 0,.slice none 0 0] 53)) (.cells #[.int .i64 n,.slice none 0 0,.slice none 0 0,.slice none 0 0] 53)
 have hB:=hA1.trans (hA2.mono hA1.size)
 have kR:=(Bk.new w 53 #[.int .i64 0,.slice none 0 0,.slice none 0 0,.slice none 0 0]).keep hA2
 have kO:=Bk.new (w.alloc (.cells #[.int .i64 0,.slice none 0 0,.slice none 0 0,.slice none 0 0] 53)) 53 #[.int .i64 n,.slice none 0 0,.slice none 0 0,.slice none 0 0]
 simp only [World.size_alloc] at kO
 clear hA1 hA2
 go_enter Tryz.func290,Tryz.ntmps290
 go_wp2_with fail
 generalize ((w.alloc (.cells #[.int .i64 0,.slice none 0 0,.slice none 0 0,.slice none 0 0] 53)).alloc (.cells #[.int .i64 n,.slice none 0 0,.slice none 0 0,.slice none 0 0] 53))=u0 at *
 have HLOW:=Lib.hid kO.lt
 go_loopw [4] (fun i wr=>∃ k:Nat,k≤n∧i=.int .i64 k∧∃ vi vo,Bk wr (w.heap.size+1) 53 #[.int .i64 n,.slice none 0 0,vi,vo]∧Bk wr w.heap.size 53 #[.int .i64 0,.slice none 0 0,.slice none 0 0,.slice none 0 0]∧RowsL wr u0.heap.size [(vi,upL k),(vo,upL k)]∧u0.heap.size≤wr.heap.size∧Below w.heap.size w wr) (fun i _=>n - (intOf i).toNat)
 case atStart=>exact ⟨0,Nat.zero_le _,rfl,_,_,kO,kR,⟨fun x hx=>by
   simp only [List.mem_cons,List.not_mem_nil,or_false,or_self] at hx
   subst hx
   exact World.ownsRow_nil _ _ _ _,by simp [Value.ownBlock]⟩,Nat.le_refl _,hB⟩
 case round =>
  clear kO kR hB
  obtain ⟨k,hk,rfl,vi,vo,kO,kR,hrows,hsz,hbel⟩:=hrel
  obtain ⟨ai,ci,rfl⟩:=(show Rw wr u0.heap.size vi (upL k) from hrows.1 (vi,upL k) (by simp)).slice
  obtain ⟨ao,co,rfl⟩:=(show Rw wr u0.heap.size vo (upL k) from hrows.1 (vo,upL k) (by simp)).slice
  rw [upL_len] at *
  by_cases hlt:k<n
  ·obtain ⟨iO,fO,zO⟩:=kO.cell
   have HR:=Lib.hid hrows
   have HSZ:=Lib.hid hsz
   clear hrows
   go_wp2_with (at_builtin;refine Hid.out ?_)
   refine Lib.hid ?_
   have hA6:=alloc_below wr (.cells #[.int .i64 k] 3)
   have hr6:=HR.out.keep hA6
   refine ints_append (one_at wr (k:Int)) rfl (.tmp 13) (.tmp 15) rfl u0.heap.size (.slice ai k ci) (upL k) rfl rfl (hr6.1 (.slice ai k ci,upL k) (by simp)) (by simp;have:=HSZ.out;omega) (by rw [upL_len];simp;omega) ?_
   intro v1 w1 r1 r2 r3
   rw [← upL_succ] at r1
   obtain ⟨a1,c1,rfl⟩:=r1.slice
   rw [upL_len] at *
   have hne1:=row_blk_ne (hr6.1 (.slice ai k ci,upL k) (by simp)) (kO.keep hA6) (by decide)
   have hne2:=row_blk_ne (hr6.1 (.slice ai k ci,upL k) (by simp)) (kR.keep hA6) (by decide)
   have kO1:=(kO.keep hA6).grown r2 hne1
   have kR1:=((kR.keep hA6).grown r2 hne2).other ⟨w.heap.size+1,2,none⟩ (.slice a1 (k+1) c1) (by simp)
   have hrw1:=(hr6.app (pre:=[]) r2 r1 r3).setB kO1 (by decide) 2 (.slice a1 (k+1) c1)
   have hb1:Below w.heap.size w w1:=(hbel.trans (hA6.mono hbel.size)).grown r2 (by have:=hbel.size;simp;omega) (fun j hj=>by have:=(World.ownsRow.lt (hr6.1 (.slice ai k ci,upL k) (by simp)) j hj).1;have:=HLOW.out;omega)
   have hsz1:wr.heap.size+1≤w1.heap.size:=by have:=r2.size;simp at this;exact this
   have HR1:=Lib.hid (And.intro hrw1 (And.intro (Below.setCell (p:=⟨w.heap.size+1,2,none⟩) hb1 (by simp) (.slice a1 (k+1) c1)) hsz1))
   have kO2:=kO1.set 2 (.slice a1 (k+1) c1)
   obtain ⟨i1,f1,z1⟩:=kO1.cell
   clear iO fO zO r1 r2 r3 hr6 hA6 hne1 hne2 hrw1 hb1 hsz1 HR kO kR hbel kO2
   go_wp2_with (at_builtin;refine Hid.out ?_)
   refine Lib.hid ?_
   have hA7:=alloc_below (w1.setCell ⟨w.heap.size+1,2,none⟩ (.slice a1 (k+1) c1)) (.cells #[.int .i64 k] 3)
   have hr7:=HR1.out.1.keep hA7
   have hb7:=HR1.out.2.1
   have hone:=one_at (w1.setCell ⟨w.heap.size+1,2,none⟩ (.slice a1 (k+1) c1)) (k:Int)
   rw [World.size_setCell] at hone
   refine ints_append hone rfl (.tmp 19) (.tmp 21) rfl u0.heap.size (.slice ao k co) (upL k) rfl rfl (hr7.1 (.slice ao k co,upL k) (by simp)) (by simp;have:=HSZ.out;have:=HR1.out.2.2;omega) (by rw [upL_len];simp;omega) ?_
   intro v2 w2 r1 r2 r3
   rw [← upL_succ] at r1
   obtain ⟨a2,c2,rfl⟩:=r1.slice
   rw [upL_len] at *
   have kO3:Bk (w1.setCell ⟨w.heap.size+1,2,none⟩ (.slice a1 (k+1) c1)) (w.heap.size+1) 53 #[.int .i64 n,.slice none 0 0,.slice a1 (k+1) c1,.slice ao k co]:=kO1.set 2 (.slice a1 (k+1) c1)
   have hne1:=row_blk_ne (hr7.1 (.slice ao k co,upL k) (by simp)) (kO3.keep hA7) (by decide)
   have hne2:=row_blk_ne (hr7.1 (.slice ao k co,upL k) (by simp)) (kR1.keep hA7) (by decide)
   have kO4:=(kO3.keep hA7).grown r2 hne1
   have kR4:=((kR1.keep hA7).grown r2 hne2).other ⟨w.heap.size+1,3,none⟩ (.slice a2 (k+1) c2) (by simp)
   have hrw4:=(hr7.app (pre:=[(.slice a1 (k+1) c1,upL (k+1))]) r2 r1 r3).setB kO4 (by decide) 3 (.slice a2 (k+1) c2)
   have hb4:Below w.heap.size w w2:=(hb7.trans (hA7.mono hb7.size)).grown r2 (by have:=hb7.size;simp at *;omega) (fun j hj=>by have:=(World.ownsRow.lt (hr7.1 (.slice ao k co,upL k) (by simp)) j hj).1;have:=HLOW.out;omega)
   have hsz4:u0.heap.size≤w2.heap.size:=by have:=r2.size;have:=HSZ.out;have:=HR1.out.2.2;simp at *;omega
   have kO5:Bk (w2.setCell ⟨w.heap.size+1,3,none⟩ (.slice a2 (k+1) c2)) (w.heap.size+1) 53 #[.int .i64 n,.slice none 0 0,.slice a1 (k+1) c1,.slice a2 (k+1) c2]:=kO4.set 3 (.slice a2 (k+1) c2)
   have HE:=Lib.hid (And.intro kO5 (And.intro kR4 (And.intro hrw4 (And.intro (show u0.heap.size≤(w2.setCell ⟨w.heap.size+1,3,none⟩ (.slice a2 (k+1) c2)).heap.size by simpa using hsz4) (Below.setCell (p:=⟨w.heap.size+1,3,none⟩) hb4 (by simp) (.slice a2 (k+1) c2))))))
   obtain ⟨i1,f1,z1⟩:=kO4.cell
   clear hone r1 r2 r3 hr7 hA7 hne1 hne2 hrw4 hb4 hsz4 kO1 kO3 kO5 kR1 kR4 hb7
   go_wp2
   go_roundw
   case rel=>exact ⟨k+1,by omega,by go_num,_,_,HE.out.1,HE.out.2.1,HE.out.2.2.1,HE.out.2.2.2.1,HE.out.2.2.2.2⟩
   case measure=>simp [intOf];omega
  ·obtain rfl:k=n:=by omega
   obtain ⟨iO,fO,zO⟩:=kO.cell
   obtain ⟨iR,fR,zR⟩:=kR.cell
   have HR:=Lib.hid hrows
   have HB:=Lib.hid hbel
   clear hrows hbel
   go_wp2
   refine bodyPost_ret (v:=.agg #[.int .i64 k,.slice none 0 0,.slice ai k ci,.slice ao k co]) (by simp [results,Tryz.results290,go_sem,iR]) rfl ⟨_,_,_,rfl,?_,?_⟩
   ·have g0:GrO wr u0.heap.size (.slice none 0 0) (.slice ai k ci) (.slice ao k co) (idI k):=⟨EdsO.nil _ _,HR.out.1 (.slice ai k ci,upL k) (by simp),HR.out.1 (.slice ao k co,upL k) (by simp)⟩
    exact (g0.res (b:=w.heap.size) (by have:=HLOW.out;omega) _ _ _ _).mono (by have:=HLOW.out;omega)
   ·exact below_res HB.out (Nat.le_refl _) _ _ _ _
end Go.Proofs.YtbljmfcifljkaaaGreatDoor
/-
  The reference's hgLeaf. Own work; printed by parLf.py.
-/
namespace Go.Proofs.YtbljmfcifljkaaaGreatDoor
open Go.RowKit
set_option maxRecDepth 100000
set_option maxHeartbeats 1000000
structure LfSt (w W:World) (c0:Value) (k v:Int) (vi ei vo eo:Value) (l1 l2 l3 l4:List Int):Prop where
 kG:Bk W (w.heap.size+2) 53 #[c0,.slice none 0 0,vi,vo]
 kE:Bk W (w.heap.size+2+1) 189 #[.int .i64 k,.int .i64 v,ei,eo]
 kR:Bk W (w.heap.size+1) 53 #[.int .i64 0,.slice none 0 0,.slice none 0 0,.slice none 0 0]
 rows:RowsL W (w.heap.size+4) [(vi,l1),(ei,l2),(vo,l3),(eo,l4)]
 bel:Below w.heap.size w W
 sz:w.heap.size+4≤W.heap.size
theorem LfSt.app1 {w W w':World} {c0:Value} {k v:Int} {vi ei vo eo v':Value} {l1 l2 l3 l4 l':List Int} {ob:Obj} (h:LfSt w W c0 k v vi ei vo eo l1 l2 l3 l4) (r1:Rw w' (w.heap.size+4) v' l') (r2:(W.alloc ob).grownBy w' vi.ownBlock) (r3:v'.ownBlock=vi.ownBlock∨v'.ownBlock=some (W.alloc ob).heap.size) :
  Bk w' (w.heap.size+2) 53 #[c0,.slice none 0 0,vi,vo]∧Bk w' (w.heap.size+2+1) 189 #[.int .i64 k,.int .i64 v,ei,eo]∧LfSt w (w'.setCell ⟨w.heap.size+2,2,none⟩ v') c0 k v v' ei vo eo l' l2 l3 l4:=by
 obtain ⟨kG,kE,kR,hr,hb,hs⟩:=h
 have hA:=alloc_below W ob
 have hr6:=hr.keep hA
 have hrw:=hr6.1 (vi,l1) (by simp)
 have g1:=(kG.keep hA).grown r2 (row_blk_ne hrw (kG.keep hA) (by decide))
 have g2:=(kE.keep hA).grown r2 (row_blk_ne hrw (kE.keep hA) (by decide))
 have g3:=(kR.keep hA).grown r2 (row_blk_ne hrw (kR.keep hA) (by decide))
 have hrows:=hr6.app (pre:=[]) r2 r1 r3
 have hb4:Below w.heap.size w w':=(hb.trans (hA.mono hb.size)).grown r2 (by have:=hb.size;simp;omega) (fun j hj=>by have:=(World.ownsRow.lt hrw j hj).1;omega)
 have hz:=r2.size
 rw [World.size_alloc] at hz
 refine ⟨g1,g2,⟨?_,?_,g3.other _ _ (by simp),hrows.setB g1 (by decide) 2 v',hb4.setCell (by show w.heap.size≤w.heap.size+2;omega) _,by rw [World.size_setCell];omega⟩⟩
 ·exact g1.set 2 v'
 ·exact g2.other _ _ (by simp)
theorem LfSt.app2 {w W w':World} {c0:Value} {k v:Int} {vi ei vo eo v':Value} {l1 l2 l3 l4 l':List Int} {ob:Obj} (h:LfSt w W c0 k v vi ei vo eo l1 l2 l3 l4) (r1:Rw w' (w.heap.size+4) v' l') (r2:(W.alloc ob).grownBy w' ei.ownBlock) (r3:v'.ownBlock=ei.ownBlock∨v'.ownBlock=some (W.alloc ob).heap.size) :
  Bk w' (w.heap.size+2) 53 #[c0,.slice none 0 0,vi,vo]∧Bk w' (w.heap.size+2+1) 189 #[.int .i64 k,.int .i64 v,ei,eo]∧LfSt w (w'.setCell ⟨w.heap.size+2+1,2,none⟩ v') c0 k v vi v' vo eo l1 l' l3 l4:=by
 obtain ⟨kG,kE,kR,hr,hb,hs⟩:=h
 have hA:=alloc_below W ob
 have hr6:=hr.keep hA
 have hrw:=hr6.1 (ei,l2) (by simp)
 have g1:=(kG.keep hA).grown r2 (row_blk_ne hrw (kG.keep hA) (by decide))
 have g2:=(kE.keep hA).grown r2 (row_blk_ne hrw (kE.keep hA) (by decide))
 have g3:=(kR.keep hA).grown r2 (row_blk_ne hrw (kR.keep hA) (by decide))
 have hrows:=hr6.app (pre:=[(vi,l1)]) r2 r1 r3
 have hb4:Below w.heap.size w w':=(hb.trans (hA.mono hb.size)).grown r2 (by have:=hb.size;simp;omega) (fun j hj=>by have:=(World.ownsRow.lt hrw j hj).1;omega)
 have hz:=r2.size
 rw [World.size_alloc] at hz
 refine ⟨g1,g2,⟨?_,?_,g3.other _ _ (by simp),hrows.setB g2 (by decide) 2 v',hb4.setCell (by show w.heap.size≤w.heap.size+2+1;omega) _,by rw [World.size_setCell];omega⟩⟩
 ·exact g1.other _ _ (by simp)
 ·exact g2.set 2 v'
theorem LfSt.app3 {w W w':World} {c0:Value} {k v:Int} {vi ei vo eo v':Value} {l1 l2 l3 l4 l':List Int} {ob:Obj} (h:LfSt w W c0 k v vi ei vo eo l1 l2 l3 l4) (r1:Rw w' (w.heap.size+4) v' l') (r2:(W.alloc ob).grownBy w' vo.ownBlock) (r3:v'.ownBlock=vo.ownBlock∨v'.ownBlock=some (W.alloc ob).heap.size) :
  Bk w' (w.heap.size+2) 53 #[c0,.slice none 0 0,vi,vo]∧Bk w' (w.heap.size+2+1) 189 #[.int .i64 k,.int .i64 v,ei,eo]∧LfSt w (w'.setCell ⟨w.heap.size+2,3,none⟩ v') c0 k v vi ei v' eo l1 l2 l' l4:=by
 obtain ⟨kG,kE,kR,hr,hb,hs⟩:=h
 have hA:=alloc_below W ob
 have hr6:=hr.keep hA
 have hrw:=hr6.1 (vo,l3) (by simp)
 have g1:=(kG.keep hA).grown r2 (row_blk_ne hrw (kG.keep hA) (by decide))
 have g2:=(kE.keep hA).grown r2 (row_blk_ne hrw (kE.keep hA) (by decide))
 have g3:=(kR.keep hA).grown r2 (row_blk_ne hrw (kR.keep hA) (by decide))
 have hrows:=hr6.app (pre:=[(vi,l1),(ei,l2)]) r2 r1 r3
 have hb4:Below w.heap.size w w':=(hb.trans (hA.mono hb.size)).grown r2 (by have:=hb.size;simp;omega) (fun j hj=>by have:=(World.ownsRow.lt hrw j hj).1;omega)
 have hz:=r2.size
 rw [World.size_alloc] at hz
 refine ⟨g1,g2,⟨?_,?_,g3.other _ _ (by simp),hrows.setB g1 (by decide) 3 v',hb4.setCell (by show w.heap.size≤w.heap.size+2;omega) _,by rw [World.size_setCell];omega⟩⟩
 ·exact g1.set 3 v'
 ·exact g2.other _ _ (by simp)
theorem LfSt.app4 {w W w':World} {c0:Value} {k v:Int} {vi ei vo eo v':Value} {l1 l2 l3 l4 l':List Int} {ob:Obj} (h:LfSt w W c0 k v vi ei vo eo l1 l2 l3 l4) (r1:Rw w' (w.heap.size+4) v' l') (r2:(W.alloc ob).grownBy w' eo.ownBlock) (r3:v'.ownBlock=eo.ownBlock∨v'.ownBlock=some (W.alloc ob).heap.size) :
  Bk w' (w.heap.size+2) 53 #[c0,.slice none 0 0,vi,vo]∧Bk w' (w.heap.size+2+1) 189 #[.int .i64 k,.int .i64 v,ei,eo]∧LfSt w (w'.setCell ⟨w.heap.size+2+1,3,none⟩ v') c0 k v vi ei vo v' l1 l2 l3 l':=by
 obtain ⟨kG,kE,kR,hr,hb,hs⟩:=h
 have hA:=alloc_below W ob
 have hr6:=hr.keep hA
 have hrw:=hr6.1 (eo,l4) (by simp)
 have g1:=(kG.keep hA).grown r2 (row_blk_ne hrw (kG.keep hA) (by decide))
 have g2:=(kE.keep hA).grown r2 (row_blk_ne hrw (kE.keep hA) (by decide))
 have g3:=(kR.keep hA).grown r2 (row_blk_ne hrw (kR.keep hA) (by decide))
 have hrows:=hr6.app (pre:=[(vi,l1),(ei,l2),(vo,l3)]) r2 r1 r3
 have hb4:Below w.heap.size w w':=(hb.trans (hA.mono hb.size)).grown r2 (by have:=hb.size;simp;omega) (fun j hj=>by have:=(World.ownsRow.lt hrw j hj).1;omega)
 have hz:=r2.size
 rw [World.size_alloc] at hz
 refine ⟨g1,g2,⟨?_,?_,g3.other _ _ (by simp),hrows.setB g2 (by decide) 3 v',hb4.setCell (by show w.heap.size≤w.heap.size+2+1;omega) _,by rw [World.size_setCell];omega⟩⟩
 ·exact g1.other _ _ (by simp)
 ·exact g2.set 3 v'
theorem leafS_id_any (k v:Int) (nm:ByteArray) (w:World) (hk:k=1) (h0:0≤v) (h1:v≤12):Calls Tryz.prog 234 #[.agg #[.int .i64 k,.int .i64 v,.string nm]] w (GrMk (idI v.toNat) w):=by
 subst hk
 obtain ⟨n,rfl⟩:∃ n:Nat,v=n:=⟨v.toNat,by omega⟩
 have hA1:=alloc_below w (.cells #[.int .i64 1,.int .i64 n,.string nm] 144)
 have hA2:=alloc_below (w.alloc (.cells #[.int .i64 1,.int .i64 n,.string nm] 144)) (.cells #[.int .i64 0,.slice none 0 0,.slice none 0 0,.slice none 0 0] 53)
 have hA:=hA1.trans (hA2.mono hA1.size)
 have kR:=Bk.new (w.alloc (.cells #[.int .i64 1,.int .i64 n,.string nm] 144)) 53 #[.int .i64 0,.slice none 0 0,.slice none 0 0,.slice none 0 0]
 simp only [World.size_alloc] at kR
 have hn:n≤12:=by omega
 rw [Int.toNat_natCast]
 go_enter Tryz.func234,Tryz.ntmps234
 go_wp2_with fail
 generalize ((w.alloc (.cells #[.int .i64 1,.int .i64 n,.string nm] 144)).alloc (.cells #[.int .i64 0,.slice none 0 0,.slice none 0 0,.slice none 0 0] 53))=u0 at *
 have hlow:=kR.lt
 refine (hgId_any n u0 (by omega)).mono ?_
 intro e u1 hq
 obtain ⟨x1,y1,x2,y2,x3,y3,rfl,hg,hb⟩:=hq.q
 have kR2:=kR.keep hb
 obtain ⟨iR,fR,zR⟩:=kR2.cell
 have HG:=Lib.hid hg
 have HB:=Lib.hid (hA.trans (hb.mono hA.size))
 clear hg hb kR kR2 hq
 generalize hGn:idI n=G at *
 obtain ⟨gw,ge,gi,gq⟩:=G
 clear hGn
 dsimp only
 go_wp2
 refine bodyPost_ret (v:=.agg #[.int .i64 gw,.slice x1 ge.length y1,.slice x2 gi.length y2,.slice x3 gq.length y3]) (by simp [results,Tryz.results234,go_sem,iR]) rfl ⟨_,_,_,rfl,?_,?_⟩
 ·exact (HG.out.res hlow _ _ _ _).mono hA.size
 ·exact below_res HB.out (by omega) _ _ _ _
theorem leafS_swap_any (k v:Int) (nm:ByteArray) (w:World) (hk:k=2):Calls Tryz.prog 234 #[.agg #[.int .i64 k,.int .i64 v,.string nm]] w (GrMk ⟨2,[],[0,1],[1,0]⟩ w):=by
 subst hk
 have hU:∀ u:World,w.heap.size+1<u.heap.size → Rw ((u.alloc (.cells #[.int .i64 0,.int .i64 1] 3)).alloc (.cells #[.int .i64 1,.int .i64 0] 3)) (w.heap.size+1+1) (.slice (some ⟨u.heap.size,0,none⟩) 2 2) [0,1]∧Rw ((u.alloc (.cells #[.int .i64 0,.int .i64 1] 3)).alloc (.cells #[.int .i64 1,.int .i64 0] 3)) (w.heap.size+1+1) (.slice (some ⟨u.heap.size+1,0,none⟩) 2 2) [1,0]:=fun u hu=>by
  have h1:=row_two u (w.heap.size+1+1) 0 1 (by omega)
  have h2:=row_two (u.alloc (.cells #[.int .i64 0,.int .i64 1] 3)) (w.heap.size+1+1) 1 0 (by simp;omega)
  rw [World.size_alloc] at h2
  exact ⟨h1.keep (alloc_below _ _),h2⟩
 have HU:=Lib.hid hU
 clear hU
 go_enter Tryz.func234,Tryz.ntmps234
 go_wp2
 refine bodyPost_ret (v:=.agg #[.int .i64 2,.slice none 0 0,.slice (some ⟨w.heap.size+1+1,0,none⟩) 2 2,.slice (some ⟨w.heap.size+1+1+1,0,none⟩) 2 2]) (by simp [results,Tryz.results234,go_sem]) rfl ⟨_,_,_,rfl,?_,?_⟩
 ·have hh:=HU.out ((w.alloc (.cells #[.int .i64 2,.int .i64 v,.string nm] 144)).alloc (.cells #[.int .i64 2,.slice none 0 0,.slice (some ⟨w.heap.size+1+1,0,none⟩) 2 2,.slice (some ⟨w.heap.size+1+1+1,0,none⟩) 2 2] 53)) (by simp)
  simp only [World.size_alloc] at hh
  exact ⟨EdsO.nil _ _,hh.1.mono (by omega),hh.2.mono (by omega)⟩
 ·exact ((((Below.refl _ _).alloc (Nat.le_refl _) _).alloc (by simp) _).alloc (by simp;omega) _).alloc (by simp;omega) _
theorem leafS_ar_any (k v:Int) (nm:ByteArray) (w:World) (h0:3≤k) (h1:k≤14):Calls Tryz.prog 234 #[.agg #[.int .i64 k,.int .i64 v,.string nm]] w (GrMk (arI k v (kindW k).1.toNat (kindW k).2.toNat) w):=by
 have hgw:=fun u=>tmKind_any k u
 obtain ⟨a,b,ha,hb,hle⟩:∃ a b:Nat,kindW k=((a:Int),(b:Int))∧a+b≤4∧True:=by
  refine ⟨(kindW k).1.toNat,(kindW k).2.toNat,?_,?_,trivial⟩
  ·unfold kindW
   repeat' split
   all_goals rfl
  ·unfold kindW
   repeat' split
   all_goals decide
 rw [ha] at hgw
 rw [ha]
 simp only [Int.toNat_natCast] at hgw ⊢
 have HGW:=Lib.hid hgw
 clear hgw ha hle
 have hA1:=alloc_below w (.cells #[.int .i64 k,.int .i64 v,.string nm] 144)
 have hA2:=alloc_below (w.alloc (.cells #[.int .i64 k,.int .i64 v,.string nm] 144)) (.cells #[.int .i64 0,.slice none 0 0,.slice none 0 0,.slice none 0 0] 53)
 have hA:=hA1.trans (hA2.mono hA1.size)
 have kN:=(Bk.new w 144 #[.int .i64 k,.int .i64 v,.string nm]).keep hA2
 have kR:=Bk.new (w.alloc (.cells #[.int .i64 k,.int .i64 v,.string nm] 144)) 53 #[.int .i64 0,.slice none 0 0,.slice none 0 0,.slice none 0 0]
 simp only [World.size_alloc] at kR
 clear hA1 hA2
 have hk1:¬ k=1:=by omega
 have hk2:¬ k=2:=by omega
 have hw:IntKind.i64.wrap ((a:Int)+b)=(a:Int)+b:=IntWalk.i64_in _ (by omega)
 have hsz:((w.alloc (.cells #[.int .i64 k,.int .i64 v,.string nm] 144)).alloc (.cells #[.int .i64 0,.slice none 0 0,.slice none 0 0,.slice none 0 0] 53)).heap.size=w.heap.size+2:=by simp
 have HB:=Lib.hid (fun u=>(HGW.out u))
 go_enter Tryz.func234,Tryz.ntmps234
 go_wp2_with fail
 generalize ((w.alloc (.cells #[.int .i64 k,.int .i64 v,.string nm] 144)).alloc (.cells #[.int .i64 0,.slice none 0 0,.slice none 0 0,.slice none 0 0] 53))=u0 at *
 refine (HGW.out u0).mono ?_
 rintro e u1 ⟨rfl,rfl⟩
 obtain ⟨iN,-,zN⟩:=kN.cell
 go_wp2_with fail
 have k8:=Bk.new u0 53 #[.int .i64 ((a:Int)+b),.slice none 0 0,.slice none 0 0,.slice none 0 0]
 have hA4:=alloc_below u0 (.cells #[.int .i64 ((a:Int)+b),.slice none 0 0,.slice none 0 0,.slice none 0 0] 53)
 have k9:=Bk.new (u0.alloc (.cells #[.int .i64 ((a:Int)+b),.slice none 0 0,.slice none 0 0,.slice none 0 0] 53)) 189 #[.int .i64 k,.int .i64 v,.slice none 0 0,.slice none 0 0]
 have hA5:=alloc_below (u0.alloc (.cells #[.int .i64 ((a:Int)+b),.slice none 0 0,.slice none 0 0,.slice none 0 0] 53)) (.cells #[.int .i64 k,.int .i64 v,.slice none 0 0,.slice none 0 0] 189)
 rw [World.size_alloc,hsz] at k9
 rw [hsz] at k8
 have hst:LfSt w ((u0.alloc (.cells #[.int .i64 ((a:Int)+b),.slice none 0 0,.slice none 0 0,.slice none 0 0] 53)).alloc (.cells #[.int .i64 k,.int .i64 v,.slice none 0 0,.slice none 0 0] 189)) (.int .i64 ((a:Int)+b)) k v (.slice none 0 0) (.slice none 0 0) (.slice none 0 0) (.slice none 0 0) (upL (min 0 a)) (upL (min 0 a)) (fromL a (0 - a)) (fromL a (0 - a)):=by
  have q0:upL (min 0 a)=[]:=by simp [upL]
  have q1:fromL a (0 - a)=[]:=by simp [fromL]
  rw [q0,q1]
  refine ⟨k8.keep hA5,k9,(kR.keep hA4).keep hA5,⟨fun x hx=>?_,by simp [Value.ownBlock]⟩,hA.trans ((hA4.trans (hA5.mono hA4.size)).mono hA.size),by simp;omega⟩
  simp only [List.mem_cons,List.not_mem_nil,or_false,or_self] at hx
  subst hx
  exact World.ownsRow_nil _ _ _ _
 clear k8 hA4 k9 hA5 kR kN iN zN hA hsz
 go_loopw [7] (fun i wr=>∃ t:Nat,t≤a+b∧i=.int .i64 t∧∃ vi ei vo eo,LfSt w wr (.int .i64 ((a:Int)+b)) k v vi ei vo eo (upL (min t a)) (upL (min t a)) (fromL a (t - a)) (fromL a (t - a))) (fun i _=>a+b - (intOf i).toNat)
 case atStart=>exact ⟨0,Nat.zero_le _,rfl,_,_,_,_,hst⟩
 case round =>
  clear hst
  obtain ⟨t,ht,rfl,vi,ei,vo,eo,hst⟩:=hrel
  obtain ⟨ai,ci,rfl⟩:=(show Rw wr (w.heap.size+4) vi (upL (min t a)) from hst.rows.1 (vi,upL (min t a)) (by simp)).slice
  obtain ⟨ae,ce,rfl⟩:=(show Rw wr (w.heap.size+4) ei (upL (min t a)) from hst.rows.1 (ei,upL (min t a)) (by simp)).slice
  obtain ⟨ao,co,rfl⟩:=(show Rw wr (w.heap.size+4) vo (fromL a (t - a)) from hst.rows.1 (vo,fromL a (t - a)) (by simp)).slice
  obtain ⟨aq,cq,rfl⟩:=(show Rw wr (w.heap.size+4) eo (fromL a (t - a)) from hst.rows.1 (eo,fromL a (t - a)) (by simp)).slice
  rw [upL_len,fromL_len] at hst
  by_cases hlt:t<a+b
  ·have hltI:(t:Int)<(a:Int)+b:=by omega
   by_cases hta:t<a
   ·have e1:min t a=t:=by omega
    have e2:min (t+1) a=t+1:=by omega
    have e3:t - a=0:=by omega
    have e4:t+1 - a=0:=by omega
    rw [e1,e3] at hst
    have E2:=Lib.hid e2
    have E4:=Lib.hid e4
    clear e1 e2 e3 e4
    have HS1:=Lib.hid hst
    obtain ⟨jg,gg,yg⟩:=hst.kG.cell
    obtain ⟨je,ge,ye⟩:=hst.kE.cell
    clear hst
    go_wp2_with (at_builtin;refine Hid.out ?_)
    refine Lib.hid ?_
    clear jg gg yg je ge ye
    have hone:=one_at wr (t:Int)
    refine ints_append hone rfl (.tmp 46) (.tmp 48) rfl (w.heap.size+4) (.slice ai t ci) (upL t) rfl rfl ((HS1.out.rows.keep (alloc_below wr _)).1 (.slice ai t ci,upL t) (by simp)) (by have:=HS1.out.sz;simp;omega) (by rw [upL_len];simp;omega) ?_
    intro v1 w1 r1 r2 r3
    rw [← upL_succ] at r1
    obtain ⟨x1,c1,rfl⟩:=r1.slice
    rw [upL_len] at r1 r3 ⊢
    obtain ⟨kg,ke,hst⟩:=HS1.out.app1 r1 r2 r3
    clear r1 r2 r3 HS1 hone
    obtain ⟨jg,gg,yg⟩:=kg.cell
    obtain ⟨je,ge,ye⟩:=ke.cell
    clear kg ke
    go_wp2_with (at_builtin;refine Hid.out ?_)
    refine Lib.hid ?_
    have hs2:=World.size_setCell w1 ⟨w.heap.size+2,2,none⟩ (.slice x1 (t+1) c1)
    have HS2:=Lib.hid hst
    clear hst
    generalize (w1.setCell ⟨w.heap.size+2,2,none⟩ (.slice x1 (t+1) c1))=W2 at *
    clear jg gg yg je ge ye
    have hone:=one_at W2 (t:Int)
    rw [hs2] at hone
    refine ints_append hone rfl (.tmp 52) (.tmp 54) rfl (w.heap.size+4) (.slice ae t ce) (upL t) rfl rfl ((HS2.out.rows.keep (alloc_below W2 _)).1 (.slice ae t ce,upL t) (by simp)) (by have:=HS2.out.sz;simp;omega) (by rw [upL_len];simp;omega) ?_
    intro v2 w2 r1 r2 r3
    rw [← upL_succ] at r1
    obtain ⟨x2,c2,rfl⟩:=r1.slice
    rw [upL_len] at r1 r3 ⊢
    obtain ⟨kg,ke,hst⟩:=HS2.out.app2 r1 r2 r3
    clear r1 r2 r3 HS2 hone hs2
    obtain ⟨jg,gg,yg⟩:=kg.cell
    obtain ⟨je,ge,ye⟩:=ke.cell
    clear kg ke
    have HST:=Lib.hid hst
    clear hst
    go_wp2
    go_roundw
    case rel=>exact ⟨t+1,by omega,by go_num,_,_,_,_,by rw [E2.out,E4.out];exact HST.out⟩
    case measure=>simp [intOf];omega
   ·have e1:min t a=a:=by omega
    have e2:min (t+1) a=a:=by omega
    have e4:t+1 - a=t - a+1:=by omega
    have e5:((t - a+a:Nat):Int)=(t:Int):=by omega
    obtain ⟨q,hq⟩:∃ q,t - a=q:=⟨_,rfl⟩
    rw [e1,hq] at hst
    rw [hq] at e4 e5
    have E2:=Lib.hid e2
    have E4:=Lib.hid e4
    have E5:=Lib.hid e5
    have hta2:¬ (t:Int)<(a:Int):=by omega
    clear e1 e2 e4 e5
    have HS1:=Lib.hid hst
    obtain ⟨jg,gg,yg⟩:=hst.kG.cell
    obtain ⟨je,ge,ye⟩:=hst.kE.cell
    clear hst
    go_wp2_with (at_builtin;refine Hid.out ?_)
    refine Lib.hid ?_
    clear jg gg yg je ge ye
    have hone:=one_at wr (t:Int)
    refine ints_append hone rfl (.tmp 58) (.tmp 60) rfl (w.heap.size+4) (.slice ao q co) (fromL a q) rfl rfl ((HS1.out.rows.keep (alloc_below wr _)).1 (.slice ao q co,fromL a q) (by simp)) (by have:=HS1.out.sz;simp;omega) (by rw [fromL_len];simp;omega) ?_
    intro v1 w1 r1 r2 r3
    rw [← E5.out,← fromL_succ] at r1
    obtain ⟨x1,c1,rfl⟩:=r1.slice
    rw [fromL_len] at r1 r3 ⊢
    obtain ⟨kg,ke,hst⟩:=HS1.out.app3 r1 r2 r3
    clear r1 r2 r3 HS1 hone
    obtain ⟨jg,gg,yg⟩:=kg.cell
    obtain ⟨je,ge,ye⟩:=ke.cell
    clear kg ke
    go_wp2_with (at_builtin;refine Hid.out ?_)
    refine Lib.hid ?_
    have hs2:=World.size_setCell w1 ⟨w.heap.size+2,3,none⟩ (.slice x1 (q+1) c1)
    have HS2:=Lib.hid hst
    clear hst
    generalize (w1.setCell ⟨w.heap.size+2,3,none⟩ (.slice x1 (q+1) c1))=W2 at *
    clear jg gg yg je ge ye
    have hone:=one_at W2 (t:Int)
    rw [hs2] at hone
    refine ints_append hone rfl (.tmp 64) (.tmp 66) rfl (w.heap.size+4) (.slice aq q cq) (fromL a q) rfl rfl ((HS2.out.rows.keep (alloc_below W2 _)).1 (.slice aq q cq,fromL a q) (by simp)) (by have:=HS2.out.sz;simp;omega) (by rw [fromL_len];simp;omega) ?_
    intro v2 w2 r1 r2 r3
    rw [← E5.out,← fromL_succ] at r1
    obtain ⟨x2,c2,rfl⟩:=r1.slice
    rw [fromL_len] at r1 r3 ⊢
    obtain ⟨kg,ke,hst⟩:=HS2.out.app4 r1 r2 r3
    clear r1 r2 r3 HS2 hone hs2
    obtain ⟨jg,gg,yg⟩:=kg.cell
    obtain ⟨je,ge,ye⟩:=ke.cell
    clear kg ke
    have HST:=Lib.hid hst
    clear hst
    go_wp2
    go_roundw
    case rel=>exact ⟨t+1,by omega,by go_num,_,_,_,_,by rw [E2.out,E4.out];exact HST.out⟩
    case measure=>simp [intOf];omega
  ·have e1:min t a=a:=by omega
   have e3:t - a=b:=by omega
   have htI:¬ (t:Int)<(a:Int)+b:=by omega
   rw [e1,e3] at hst
   obtain ⟨W5,hW5⟩:∃ W5,W5=(((((wr.setCell ⟨w.heap.size+2,1,none⟩ (.slice (some ⟨wr.heap.size,0,none⟩) 1 1)).setCell ⟨w.heap.size+1,0,none⟩ (.int .i64 ((a:Int)+b))).setCell ⟨w.heap.size+1,1,none⟩ (.slice (some ⟨wr.heap.size,0,none⟩) 1 1)).setCell ⟨w.heap.size+1,2,none⟩ (.slice ai a ci)).setCell ⟨w.heap.size+1,3,none⟩ (.slice ao b co)):=⟨_,rfl⟩
   have hz5:W5.heap.size=wr.heap.size:=by rw [hW5];simp
   have low:∀ (u:Value) l,Rw wr (w.heap.size+4) u l → Rw W5 (w.heap.size+4) u l:=fun u l hu=>by
    rw [hW5]
    exact ((((hu.other ⟨w.heap.size+2,1,none⟩ _ (by show w.heap.size+2<w.heap.size+4;omega)).other ⟨w.heap.size+1,0,none⟩ _ (by show w.heap.size+1<w.heap.size+4;omega)).other ⟨w.heap.size+1,1,none⟩ _ (by show w.heap.size+1<w.heap.size+4;omega)).other ⟨w.heap.size+1,2,none⟩ _ (by show w.heap.size+1<w.heap.size+4;omega)).other ⟨w.heap.size+1,3,none⟩ _ (by show w.heap.size+1<w.heap.size+4;omega)
   have hA6:=alloc_below W5 (.cells #[.int .i64 k,.int .i64 v,.slice ae a ce,.slice aq b cq] 189)
   have kE:=Bk.new W5 189 #[.int .i64 k,.int .i64 v,.slice ae a ce,.slice aq b cq]
   rw [hz5] at kE
   have hi:=(low _ _ (hst.rows.1 (.slice ai a ci,upL a) (by simp))).keep hA6
   have he:=(low _ _ (hst.rows.1 (.slice ae a ce,upL a) (by simp))).keep hA6
   have ho:=(low _ _ (hst.rows.1 (.slice ao b co,fromL a b) (by simp))).keep hA6
   have hq:=(low _ _ (hst.rows.1 (.slice aq b cq,fromL a b) (by simp))).keep hA6
   have hed:EdS (W5.alloc (.cells #[.int .i64 k,.int .i64 v,.slice ae a ce,.slice aq b cq] 189)) (w.heap.size+4) (.slice (some ⟨wr.heap.size,0,none⟩) 1 1) [(⟨k,v,upL a,fromL a b⟩,.slice ae a ce,.slice aq b cq)] :=
    ⟨⟨rfl,.inr ⟨wr.heap.size,1,_,rfl,hst.sz,kE,Nat.le_refl _,by unfold maxLen;omega,rfl,rfl⟩⟩,fun y hy=>by
     obtain rfl:=List.mem_singleton.1 hy
     exact ⟨he,hq⟩⟩
   have HG:=Lib.hid (show GrO (W5.alloc (.cells #[.int .i64 k,.int .i64 v,.slice ae a ce,.slice aq b cq] 189)) (w.heap.size+4) (.slice (some ⟨wr.heap.size,0,none⟩) 1 1) (.slice ai a ci) (.slice ao b co) (arI k v a b) from ⟨hed.o,hi,ho⟩)
   have hb5:Below w.heap.size w W5:=by rw [hW5];exact below_res (hst.bel.setCell (by simp) _) (by omega) _ _ _ _
   have HB:=Lib.hid (hb5.trans (hA6.mono (by rw [hz5];exact hst.bel.size)))
   obtain ⟨jg,gg,yg⟩:=hst.kG.cell
   obtain ⟨je,ge,ye⟩:=hst.kE.cell
   obtain ⟨iR,fR,zR⟩:=hst.kR.cell
   have hz2:w.heap.size+2<wr.heap.size:=yg
   have hn1:¬ w.heap.size+1=w.heap.size+2:=by omega
   have hn2:¬ w.heap.size+2=w.heap.size+1:=by omega
   have hn3:¬ wr.heap.size=w.heap.size+2:=by omega
   have hn4:¬ wr.heap.size=w.heap.size+1:=by omega
   have HW5:=Lib.hid hW5
   clear hst hA6 kE hi he ho hq hed low hb5 hz5 hW5
   go_wp2
   refine bodyPost_ret (v:=.agg #[.int .i64 ((a:Int)+b),.slice (some ⟨wr.heap.size,0,none⟩) 1 1,.slice ai a ci,.slice ao b co]) (by simp [results,Tryz.results234,go_sem,iR,fR,zR]) rfl ?_
   rw [← HW5.out]
   exact ⟨_,_,_,rfl,HG.out.mono (by omega),HB.out⟩
theorem hgLeaf_any (n:Nd) (w:World) (h:leafB n=true):Calls Tryz.prog 234 #[.agg #[.int .i64 n.kind,.int .i64 n.value,.string n.name]] w (GrMk (lfI n) w):=by
 unfold leafB at h
 simp only [Bool.and_eq_true,decide_eq_true_eq] at h
 obtain ⟨⟨⟨h0,h1⟩,h2⟩,h3⟩:=h
 unfold lfI
 by_cases hk:n.kind=1
 ·rw [if_pos hk]
  rw [if_pos hk] at h3
  simp only [Bool.and_eq_true,decide_eq_true_eq] at h3
  exact leafS_id_any _ _ _ w hk h3.1 h3.2
 ·rw [if_neg hk]
  by_cases hk2:n.kind=2
  ·rw [if_pos hk2]
   exact leafS_swap_any _ _ _ w hk2
  ·rw [if_neg hk2]
   exact leafS_ar_any _ _ _ w (by omega) h2
end Go.Proofs.YtbljmfcifljkaaaGreatDoor

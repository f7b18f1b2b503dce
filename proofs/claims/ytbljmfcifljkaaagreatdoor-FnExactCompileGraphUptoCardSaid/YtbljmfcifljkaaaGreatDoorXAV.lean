/-
  The edges ahead of the wires and behind them: the program's ends. Own work.
-/
import Derived.Test.YtbljmfcifljkaaaGreatDoorXAU
set_option linter.all false
set_option maxRecDepth 100000
set_option maxHeartbeats 8000000
namespace Go.Proofs.YtbljmfcifljkaaaGreatDoor
open Go.RowKit
set_option maxRecDepth 100000
set_option maxHeartbeats 2000000
theorem Rw.put {w:World} {B g c n:Nat} {l:List Int} (h:Rw w B (.slice (some ⟨g,0,none⟩) n c) l) (hl:l.length=n) {k:Nat} (hk:k<n) (z:Int) :
  (w.cell? ⟨g,k,none⟩=some (.int .i64 (l[k]'(by omega)))∧w.frozen? ⟨g,k,none⟩=false)∧Rw (w.setCell ⟨g,k,none⟩ (.int .i64 z)) B (.slice (some ⟨g,0,none⟩) n c) (l.set k z):=by
 have e1:(l.set k z).take k ++ l.drop k=l:=by rw [List.take_set_of_le (Nat.le_refl _),List.take_append_drop]
 have e2:(l.set k z).take (k+1) ++ l.drop (k+1)=l.set k z:=by
  have:l.drop (k+1)=(l.set k z).drop (k+1):=by rw [List.drop_set_of_lt (by omega)]
  rw [this,List.take_append_drop]
 have h2:=Rw.fill (xs:=l.set k z) (ys:=l) (k:=k) (by rw [e1];exact h) (by rw [List.length_set];exact hl) hl hk
 rw [e2,List.getElem_set_self] at h2
 exact h2
theorem exc_one {T:Nat → Prop} {w0 w:World} (h:Exc T w0 w) {g:Nat} (hg:w0.heap.size≤g) (k:Nat) (u:Value):Exc T w0 (w.setCell ⟨g,k,none⟩ u):=exc_set h (a:=⟨g,k,none⟩) (.inl hg) u
structure EnS (w:World) (g:GrI) (n:Nat) (cs:Array Value) (be:Nat) (ga gb:Option Addr) (ca cb:Nat) (k:Nat) (wr:World) (bl hl:List Int):Prop where
 kg:Bk wr w.heap.size 53 cs
 kz:Bk wr (w.heap.size+1) 275 #[.slice none 0 0,.slice none 0 0]
 ke:Bk wr be 275 #[.slice ga n ca,.slice gb n cb]
 ra:Rw wr w.heap.size (.slice ga n ca) bl
 rb:Rw wr w.heap.size (.slice gb n cb) hl
 la:bl.length=n
 lb:hl.length=n
 ap:∀ j,(Value.slice ga n ca).ownBlock=some j → (Value.slice gb n cb).ownBlock ≠ some j
 ok:∀ i,∀ h:i<g.edges.length,i<k → ∀ u ∈ g.edges[i].outs,bl[u.toNat]?=some (i:Int)
 bel:Below w.heap.size w wr
theorem EnS.keep {w:World} {g:GrI} {n:Nat} {cs:Array Value} {be:Nat} {ga gb:Option Addr} {ca cb:Nat} {k:Nat} {wr w':World} {bl hl:List Int} (h:EnS w g n cs be ga gb ca cb k wr bl hl) (hb:Below wr.heap.size wr w'):EnS w g n cs be ga gb ca cb k w' bl hl :=
 ⟨h.kg.keep hb,h.kz.keep hb,h.ke.keep hb,h.ra.keep hb,h.rb.keep hb,h.la,h.lb,h.ap,h.ok,h.bel.trans (hb.mono h.bel.size)⟩
theorem nodup_two {E:List EdI} (hn:(E.flatMap EdI.outs).Nodup) {i j:Nat} (hij:i<j) (hi:i<E.length) (hj:j<E.length) {u:Int} (h1:u ∈ E[i].outs) (h2:u ∈ E[j].outs):False:=by
 induction E generalizing i j with
 | nil=>simp at hi
 | cons e r ih =>
  rw [List.flatMap_cons,List.nodup_append] at hn
  cases j with
  | zero=>omega
  | succ j =>
   cases i with
   | zero=>exact hn.2.2 u h1 u (List.mem_flatMap.2 ⟨_,List.getElem_mem (by simpa using hj),h2⟩) rfl
   | succ i=>exact ih hn.2.1 (by omega) (by simpa using hi) (by simpa using hj) h1 h2
theorem EnS.putA {w:World} {g:GrI} {n:Nat} {cs:Array Value} {be:Nat} {ga gb:Option Addr} {ca cb:Nat} {k:Nat} {wr:World} {bl hl:List Int} (h:EnS w g n cs be ga gb ca cb k wr bl hl) {m:Nat} (hm:m<n) (z:Int)
  (hd:∀ i,∀ hi:i<g.edges.length,i<k → ∀ u ∈ g.edges[i].outs,¬ u.toNat=m) :
  ∃ q,ga=some ⟨q,0,none⟩∧w.heap.size≤q∧wr.cell? ⟨q,m,none⟩=some (.int .i64 (bl[m]'(by rw [h.la];exact hm)))∧wr.frozen? ⟨q,m,none⟩=false∧(∀ {b t cs},Bk wr b t cs → 3 ≠ t → b ≠ q)∧EnS w g n cs be ga gb ca cb k (wr.setCell ⟨q,m,none⟩ (.int .i64 z)) (bl.set m z) hl:=by
 have hlen:=h.la
 obtain ⟨q,c',e,hg,hBg⟩:=h.ra.block (by omega)
 simp only [Value.slice.injEq] at e
 obtain ⟨rfl,-,rfl⟩:=e
 obtain ⟨⟨d0,f0⟩,hset⟩:=Rw.put h.ra h.la hm z
 have hne:∀ {b:Nat} {t:TypeId} {cs:Array Value},Bk wr b t cs → 3 ≠ t → b ≠ q:=fun hb ht e=>row_blk_ne h.ra hb ht (by simp [Value.ownBlock,e])
 refine ⟨q,rfl,hBg,d0,f0,hne,h.kg.other ⟨q,m,none⟩ _ (hne h.kg (by decide)),h.kz.other ⟨q,m,none⟩ _ (hne h.kz (by decide)),h.ke.other ⟨q,m,none⟩ _ (hne h.ke (by decide)),hset,owns_other h.rb _ _ (h.ap q (by simp [Value.ownBlock])),by rw [List.length_set];exact h.la,h.lb,h.ap,fun i hi hik u hu=>?_,h.bel.setCell hBg _⟩
 rw [List.getElem?_set_ne (fun e=>hd i hi hik u hu e.symm)]
 exact h.ok i hi hik u hu
theorem EnS.putB {w:World} {g:GrI} {n:Nat} {cs:Array Value} {be:Nat} {ga gb:Option Addr} {ca cb:Nat} {k:Nat} {wr:World} {bl hl:List Int} (h:EnS w g n cs be ga gb ca cb k wr bl hl) {m:Nat} (hm:m<n) (z:Int) :
  ∃ q,gb=some ⟨q,0,none⟩∧w.heap.size≤q∧wr.cell? ⟨q,m,none⟩=some (.int .i64 (hl[m]'(by rw [h.lb];exact hm)))∧wr.frozen? ⟨q,m,none⟩=false∧(∀ {b t cs},Bk wr b t cs → 3 ≠ t → b ≠ q)∧EnS w g n cs be ga gb ca cb k (wr.setCell ⟨q,m,none⟩ (.int .i64 z)) bl (hl.set m z):=by
 have hlen:=h.lb
 obtain ⟨q,c',e,hg,hBg⟩:=h.rb.block (by omega)
 simp only [Value.slice.injEq] at e
 obtain ⟨rfl,-,rfl⟩:=e
 obtain ⟨⟨d0,f0⟩,hset⟩:=Rw.put h.rb h.lb hm z
 have hne:∀ {b:Nat} {t:TypeId} {cs:Array Value},Bk wr b t cs → 3 ≠ t → b ≠ q:=fun hb ht e=>row_blk_ne h.rb hb ht (by simp [Value.ownBlock,e])
 exact ⟨q,rfl,hBg,d0,f0,hne,h.kg.other ⟨q,m,none⟩ _ (hne h.kg (by decide)),h.kz.other ⟨q,m,none⟩ _ (hne h.kz (by decide)),h.ke.other ⟨q,m,none⟩ _ (hne h.ke (by decide)),owns_other h.ra _ _ (fun e=>h.ap q e (by simp [Value.ownBlock])),hset,h.la,by rw [List.length_set];exact h.lb,h.ap,h.ok,h.bel.setCell hBg _⟩
def EndP (g:GrI) (w:World) (e:Ending) (w':World):Prop:=∃ va vb bl,e=.returned (.agg #[va,vb])∧Rw w' w.heap.size va bl∧BefL g bl∧(∃ a c,vb=.slice a g.wires.toNat c)∧Below w.heap.size w w'
theorem ends_any (g:GrI) (ve vi vo:Value) (w:World) (hE:EdsAt w ve g.edges) (hgd:grB g=true) (hnd:(g.edges.flatMap EdI.outs).Nodup) (hlE:g.edges.length≤1000) (hlW:0≤g.wires∧g.wires≤1000) (hok:∀ e ∈ g.edges,e.ins.length≤1000∧e.outs.length≤1000) :
  Calls Tryz.prog 214 #[.agg #[.int .i64 g.wires,ve,vi,vo]] w (EndP g w):=by
 obtain ⟨a,cap,rfl,hc,hat⟩:=hE
 obtain ⟨n,hn⟩:∃ n:Nat,g.wires.toNat=n:=⟨_,rfl⟩
 have hgw:g.wires=(n:Int):=by omega
 have HN:=Lib.hid (And.intro hn hgw)
 have hnn:n≤1000:=by omega
 rw [hgw]
 clear hgw hn
 have hA:=alloc_below w (.cells #[.int .i64 n,.slice a g.edges.length cap,vi,vo] 53)
 have hA2:=alloc_below (w.alloc (.cells #[.int .i64 n,.slice a g.edges.length cap,vi,vo] 53)) (.cells #[.slice none 0 0,.slice none 0 0] 275)
 have kG:=(Bk.new w 53 #[.int .i64 n,.slice a g.edges.length cap,vi,vo]).keep hA2
 have kZ:=Bk.new (w.alloc (.cells #[.int .i64 n,.slice a g.edges.length cap,vi,vo] 53)) 275 #[.slice none 0 0,.slice none 0 0]
 rw [World.size_alloc] at kZ
 have hB:=hA.trans (hA2.mono hA.size)
 clear hA hA2
 go_enter Tryz.func214,Tryz.ntmps214
 go_wp2_with fail
 generalize ((w.alloc (.cells #[.int .i64 n,.slice a g.edges.length cap,vi,vo] 53)).alloc (.cells #[.slice none 0 0,.slice none 0 0] 275))=u0 at *
 have x0:=kG.cell.1 0
 have xz:=kG.lt
 simp only [List.getElem?_toArray,List.getElem?_cons_zero,List.getElem?_cons_succ] at x0
 have up0:∀ {w':World},Exc NoT u0.drew w' → Below u0.heap.size u0 w':=fun h=>(Below.refl u0.heap.size u0).drew.trans (h.toBelow.mono (by simp))
 refine region_acts (C:=Exc (NoT) _) 6 [0,1,2,3,4,5,6,7,8] (by kernel_rfl) (by kernel_rfl) (Exc.grows _ _) (Exc.refl _ _) ?_
 iterate 2 (apply x_st rfl rfl rfl;(focus intro u hc' hf';go_simp <;> rfl);intro K hK;go_simp;apply hK;clear hK K)
 refine x_call rfl rfl rfl (Exc.grows _ _) (Exc.refl _ _) 150 (fun K hK=>?_);apply Exists.intro;refine ⟨fun w' hw'=>?_,fun wa hwa hbwa=>?_⟩;(focus go_simp;rfl);refine (repeated_any (-1) n _ (by omega)).mono ?_;rintro e w3 ⟨v3,rfl,hr3,hb3⟩;refine ⟨_,rfl,hb3,fun hx=>?_⟩;go_simp;apply hK;clear hK K
 iterate 2 (apply x_st rfl rfl rfl;(focus intro u hc' hf';go_simp <;> rfl);intro K hK;go_simp;apply hK;clear hK K)
 refine x_call rfl rfl rfl (Exc.grows _ _) (hx) 150 (fun K hK=>?_);apply Exists.intro;refine ⟨fun w' hw'=>?_,fun wb hwb hbwb=>?_⟩;(focus go_simp;rfl);refine (repeated_any (-1) n _ (by omega)).mono ?_;rintro e w4 ⟨v4,rfl,hr4,hb4⟩;refine ⟨_,rfl,hb4,fun hx=>?_⟩;go_simp;apply hK;clear hK K
 obtain ⟨a3,q3,rfl⟩:=hr3.slice
 obtain ⟨a4,q4,rfl⟩:=hr4.slice
 rw [List.length_replicate] at *
 iterate 1 (apply x_st rfl rfl rfl;(focus intro u hc' hf';go_simp <;> rfl);intro K hK;go_simp;apply hK;clear hK K)
 refine x_make rfl rfl rfl (Exc.grows _ _) (hx) (fun b=>.pointer (some ⟨b,0,none⟩)) (fun K hK=>?_)
 apply Exists.intro
 refine ⟨fun w' hw'=>?_,fun be w5 hw5 hb45 hbo hNb hnb=>?_⟩
 ·obtain ⟨hc',hf'⟩:=hw'.cell
  try simp only [World.size_drew] at hc' hf'
  go_simp
  rfl
 go_simp
 refine hK _ _ _ ?_
 clear hK K
 refine x_do rfl rfl rfl (Exc.grows _ _) hw5 (fun K hK=>?_)
 intro w6 hw6 hb56
 have hbo6:=(hb56.block be (made_cell hbo).2.2).trans hbo
 obtain ⟨m0,m1,m2⟩:=made_cell hbo6
 refine ⟨(w6.setCell ⟨be,0,none⟩ (.slice a3 n q3)).setCell ⟨be,1,none⟩ (.slice a4 n q4),?_,⟨exc_one (exc_one hw6 hNb 0 _) hNb 1 _,by simp,fun j _ hj _=>by
  rw [Below.heap_setCell _ _ _ _ (fun h=>hj (by simpa using h)),Below.heap_setCell _ _ _ _ (fun h=>hj (by simpa using h))]⟩,?_⟩
 ·go_simp
 go_simp
 refine hK _ _ _ ?_
 clear hK K
 refine x_nil ?_
 have hz0:w.heap.size<u0.heap.size:=xz
 have hb06:=up0 hw6
 simp only [World.size_drew] at hNb
 have kE:Bk w6 be 275 #[.slice none 0 0,.slice none 0 0]:=hbo6
 have kE7:Bk ((w6.setCell ⟨be,0,none⟩ (.slice a3 n q3)).setCell ⟨be,1,none⟩ (.slice a4 n q4)) be 275 #[.slice a3 n q3,.slice a4 n q4]:=by simpa using (kE.set 0 (.slice a3 n q3)).set 1 (.slice a4 n q4)
 have hr36:=(((hr3.keep hbwb).keep hb4).keep hb45).keep hb56
 have hr46:=(hr4.keep hb45).keep hb56
 have hs1:=hbwa.size
 have hs2:=hbwb.size
 have hs3:=hb3.size
 simp only [World.size_drew] at hs1
 have hap:∀ j,(Value.slice a3 n q3).ownBlock=some j → (Value.slice a4 n q4).ownBlock ≠ some j:=fun j hj e=>by
  have h1:=(World.ownsRow.lt hr3 j hj).2
  have h2:=(World.ownsRow.lt hr4 j e).1
  omega
 have setR:∀ {v:Value} {l:List Int} {B:Nat},Rw w6 B v l → Rw ((w6.setCell ⟨be,0,none⟩ (.slice a3 n q3)).setCell ⟨be,1,none⟩ (.slice a4 n q4)) B v l:=fun h=>(h.setB kE (by decide) 0 _).setB (kE.set 0 _) (by decide) 1 _
 have setK:∀ {b:Nat} {t:TypeId} {cs:Array Value},Bk w6 b t cs → b<u0.heap.size → Bk ((w6.setCell ⟨be,0,none⟩ (.slice a3 n q3)).setCell ⟨be,1,none⟩ (.slice a4 n q4)) b t cs:=fun h hb=>(h.other ⟨be,0,none⟩ _ (by simp;omega)).other ⟨be,1,none⟩ _ (by simp;omega)
 have hst:EnS w g n #[.int .i64 n,.slice a g.edges.length cap,vi,vo] be a3 a4 q3 q4 0 ((w6.setCell ⟨be,0,none⟩ (.slice a3 n q3)).setCell ⟨be,1,none⟩ (.slice a4 n q4)) (List.replicate n (-1)) (List.replicate n (-1)):=by
  refine ⟨setK (kG.keep hb06) kG.lt,setK (kZ.keep hb06) kZ.lt,kE7,setR (hr36.mono (by omega)),setR (hr46.mono (by omega)),by simp,by simp,hap,fun i _ hi=>by omega,?_⟩
  have hB6:=hB.trans (hb06.mono hB.size)
  exact (hB6.setCell (by simp;omega) _).setCell (by simp;omega) _
 have x1:=hst.kg.cell.1 1
 have xz:=hst.kg.lt
 simp only [List.getElem?_toArray,List.getElem?_cons_zero,List.getElem?_cons_succ] at x1
 generalize ((w6.setCell ⟨be,0,none⟩ (.slice a3 n q3)).setCell ⟨be,1,none⟩ (.slice a4 n q4))=u1 at *
 clear hbo6 m0 m1 m2 hz0 hb06 kE kE7 hr36 hr46 hs1 hs2 hs3 hap setR setK hr3 hr4 hb3 hb4 hb45 hb56 hbwa hbwb hwa hwb hx hw5 hw6 hbo hNb hnb up0 kG kZ hB x0
 go_wp2_with fail
 clear x1 xz
 have HHAT:=Lib.hid hat
 have HND:=Lib.hid hnd
 clear hat hnd
 go_loopw [20] (fun i wr=>∃ k:Nat,k≤g.edges.length∧i=.int .i64 k∧∃ bl hl,EnS w g n #[.int .i64 n,.slice a g.edges.length cap,vi,vo] be a3 a4 q3 q4 k wr bl hl) (fun i _=>g.edges.length - (intOf i).toNat)
 case atStart=>exact ⟨0,Nat.zero_le _,rfl,_,_,hst⟩
 case round =>
  clear hst
  obtain ⟨k,hk,rfl,bl,hl,hst⟩:=hrel
  by_cases hlk:k<g.edges.length
  ·obtain ⟨b,o,rfl,_,hed⟩:=HHAT.out k hlk
   have hek:=hok _ (List.getElem_mem hlk)
   have hrg:=fun u (hu:u ∈ g.edges[k].outs)=>cg_eout hgd (List.getElem_mem hlk) hu
   have hri:=fun u (hu:u ∈ g.edges[k].ins)=>cg_ein hgd (List.getElem_mem hlk) hu
   have hdis:∀ i,∀ hi:i<g.edges.length,i<k → ∀ u ∈ g.edges[i].outs,∀ u2 ∈ g.edges[k].outs,¬ u.toNat=u2.toNat:=fun i hi hik u hu u2 hu2 e=>by
    have r1:=cg_eout hgd (List.getElem_mem hi) hu
    have r2:=cg_eout hgd (List.getElem_mem hlk) hu2
    obtain rfl:u=u2:=by omega
    exact nodup_two HND.out hik hi hlk hu hu2
   obtain ⟨e,hee⟩:∃ e,g.edges[k]=e:=⟨_,rfl⟩
   have HEE:=Lib.hid hee
   rw [hee] at hed hek hrg hri hdis
   rw [HN.out.1] at hrg hri
   obtain ⟨c0,c1,wi,wo,c2,c3,hei,heo⟩:=hed
   replace c0:=cell_keep hst.bel c0
   replace c1:=cell_keep hst.bel c1
   replace c2:=cell_keep hst.bel c2
   replace c3:=cell_keep hst.bel c3
   have bz:=cell_lt c0
   obtain ⟨ia,ic,rfl⟩:=hei.slice
   obtain ⟨oa,oc,rfl⟩:=heo.slice
   have hA2:=alloc_below wr (.cells #[.int .i64 e.kind,.int .i64 e.value,.slice ia e.ins.length ic,.slice oa e.outs.length oc] 189)
   have kE:=Bk.new wr 189 #[.int .i64 e.kind,.int .i64 e.value,.slice ia e.ins.length ic,.slice oa e.outs.length oc]
   have hst2:=hst.keep hA2
   have HEI:=Lib.hid hei
   have HEO:=Lib.hid heo
   have HDIS:=Lib.hid hdis
   have HRG:=Lib.hid hrg
   have HRI:=Lib.hid hri
   have HBEL:=Lib.hid hst.bel
   clear hst hA2 hei heo hdis hee hrg hri
   go_wp2_with fail
   generalize (wr.alloc (.cells #[.int .i64 e.kind,.int .i64 e.value,.slice ia e.ins.length ic,.slice oa e.outs.length oc] 189))=Wi at kE hst2 ⊢
   generalize hbe:wr.heap.size=eb at *
   have HSZ:=Lib.hid (show w.heap.size≤eb by have:=HBEL.out.size;omega)
   clear c0 c1 c2 c3 bz HBEL hbe
   go_loopw [28] (fun i wr=>∃ k2:Nat,k2≤e.outs.length∧i=.int .i64 k2∧∃ bl hl,EnS w g n #[.int .i64 n,.slice (some ⟨b,o,none⟩) g.edges.length cap,vi,vo] be a3 a4 q3 q4 k wr bl hl∧(∀ u ∈ e.outs.take k2,bl[u.toNat]?=some (k:Int))∧Bk wr eb 189 #[.int .i64 e.kind,.int .i64 e.value,.slice ia e.ins.length ic,.slice oa e.outs.length oc]) (fun i _=>e.outs.length - (intOf i).toNat)
   case atStart=>exact ⟨0,Nat.zero_le _,rfl,_,_,hst2,by simp,kE⟩
   case round =>
    clear hst2 kE
    obtain ⟨k2,hk2,rfl,bl,hl,hst,hset,kE⟩:=hrel
    by_cases hlk2:k2<e.outs.length
    ·obtain ⟨ob,oo,rfl,d0⟩:=ints_cell (HEO.out.keep hst.bel) hlk2
     have hur:=HRG.out _ (List.getElem_mem hlk2)
     have hda:=fun i hi hik u hu=>HDIS.out i hi hik u hu _ (List.getElem_mem hlk2)
     have htk:=List.take_succ_eq_append_getElem hlk2
     obtain ⟨m,hm⟩:∃ m:Nat,e.outs[k2]=m:=⟨(e.outs[k2]).toNat,by omega⟩
     rw [hm] at d0 hur hda htk
     simp only [Int.toNat_natCast] at hur hda
     obtain ⟨q,rfl,hq,g0,gf,hne,hst2⟩:=hst.putA hur.2 (k:Int) hda
     have kE2:=kE.other ⟨q,m,none⟩ (.int .i64 k) (hne kE (by decide))
     have hla:=hst.la
     have hset2:∀ u ∈ e.outs.take (k2+1),(bl.set m (k:Int))[u.toNat]?=some (k:Int):=by
      rw [htk]
      intro u hu
      rcases List.mem_append.1 hu with h1|h1
      ·by_cases eu:m=u.toNat
       ·rw [← eu,List.getElem?_set_self (by omega)]
       ·rw [List.getElem?_set_ne eu];exact hset u h1
      ·simp only [List.mem_singleton] at h1
       subst h1
       rw [Int.toNat_natCast,List.getElem?_set_self (by omega)]
     obtain ⟨old,hold⟩:∃ old,wr.cell? ⟨q,m,none⟩=some (.int .i64 old):=⟨_,g0⟩
     clear g0
     have HS:=Lib.hid (And.intro hst2 (And.intro hset2 kE2))
     have x0:=hst.ke.cell.1 0
     have xz:=hst.ke.lt
     simp only [List.getElem?_toArray,List.getElem?_cons_zero,List.getElem?_cons_succ] at x0
     have dz:=cell_lt d0
     have gz:=cell_lt hold
     clear hst hset kE hst2 hset2 kE2 htk hda hm hne hla
     go_wp2
     go_roundw
     case rel=>exact ⟨k2+1,by omega,by go_num,_,_,HS.out.1,HS.out.2.1,HS.out.2.2⟩
     case measure=>simp [intOf];omega
    ·obtain rfl:k2=e.outs.length:=by omega
     rw [List.take_length] at hset
     have y2:=kE.cell.1 2
     have yz:=kE.lt
     simp only [List.getElem?_toArray,List.getElem?_cons_zero,List.getElem?_cons_succ] at y2
     generalize hww:wr=wo at *
     clear hww
     go_wp2_with fail
     clear y2 yz
     go_loopw [41] (fun i wr=>∃ k2:Nat,k2≤e.ins.length∧i=.int .i64 k2∧∃ bl hl,EnS w g n #[.int .i64 n,.slice (some ⟨b,o,none⟩) g.edges.length cap,vi,vo] be a3 a4 q3 q4 k wr bl hl∧(∀ u ∈ e.outs,bl[u.toNat]?=some (k:Int))) (fun i _=>e.ins.length - (intOf i).toNat)
     case atStart=>exact ⟨0,Nat.zero_le _,rfl,_,_,hst,hset⟩
     case round =>
      clear hst hset kE
      obtain ⟨k2,hk2,rfl,bl,hl,hst,hset⟩:=hrel
      by_cases hlk2:k2<e.ins.length
      ·obtain ⟨ob,oo,rfl,d0⟩:=ints_cell (HEI.out.keep hst.bel) hlk2
       have hur:=HRI.out _ (List.getElem_mem hlk2)
       obtain ⟨m,hm⟩:∃ m:Nat,e.ins[k2]=m:=⟨(e.ins[k2]).toNat,by omega⟩
       rw [hm] at d0 hur
       simp only [Int.toNat_natCast] at hur
       obtain ⟨q,rfl,hq,g0,gf,hne,hst2⟩:=hst.putB hur.2 (k:Int)
       obtain ⟨old,hold⟩:∃ old,wr.cell? ⟨q,m,none⟩=some (.int .i64 old):=⟨_,g0⟩
       clear g0
       have HS:=Lib.hid (And.intro hst2 hset)
       have x0:=hst.ke.cell.1 1
       have xz:=hst.ke.lt
       simp only [List.getElem?_toArray,List.getElem?_cons_zero,List.getElem?_cons_succ] at x0
       have dz:=cell_lt d0
       have gz:=cell_lt hold
       clear hst hset hst2 hm hne
       go_wp2
       go_roundw
       case rel=>exact ⟨k2+1,by omega,by go_num,_,_,HS.out.1,HS.out.2⟩
       case measure=>simp [intOf];omega
      ·obtain rfl:k2=e.ins.length:=by omega
       have hfin:EnS w g n #[.int .i64 n,.slice (some ⟨b,o,none⟩) g.edges.length cap,vi,vo] be a3 a4 q3 q4 (k+1) wr bl hl:=⟨hst.kg,hst.kz,hst.ke,hst.ra,hst.rb,hst.la,hst.lb,hst.ap,fun i hi hik u hu=>by
        by_cases e2:i=k
        ·subst e2
         rw [HEE.out] at hu
         exact hset u hu
        ·exact hst.ok i hi (by omega) u hu,hst.bel⟩
       have HF:=Lib.hid hfin
       clear hfin hst hset
       go_wp2
       go_roundw
       case rel=>exact ⟨k+1,by omega,by go_num,_,_,HF.out⟩
       case measure=>simp [intOf];omega
  ·obtain rfl:k=g.edges.length:=by omega
   obtain ⟨y0,yf,yz⟩:=hst.ke.cell
   have y1:=y0 1
   have y0:=y0 0
   obtain ⟨z0,zf,zz⟩:=hst.kz.cell
   have z1:=z0 1
   have z0:=z0 0
   simp only [List.getElem?_toArray,List.getElem?_cons_zero,List.getElem?_cons_succ] at y0 y1 z0 z1
   have hst2:=hst.ra
   have hbef:BefL g bl:=⟨by rw [hst.la,HN.out.1],fun i hi u hu=>hst.ok i hi hi u hu⟩
   have hbel:=hst.bel
   have hra:=((hst.ra.setB hst.kz (by decide) 0 (.slice a3 n q3)).setB (hst.kz.set 0 (.slice a3 n q3)) (by decide) 1 (.slice a4 n q4))
   have HR:=Lib.hid (And.intro hra (And.intro hbef hbel))
   clear hst hst2 hra hbef hbel
   go_wp2
   refine bodyPost_ret (v:=.agg #[.slice a3 n q3,.slice a4 n q4]) (by simp [results,Tryz.results214,go_sem,z0,z1,zf,zz]) rfl ?_
   exact ⟨_,_,bl,rfl,HR.out.1,HR.out.2.1,⟨_,_,by rw [HN.out.1]⟩,(HR.out.2.2.setCell (by simp) _).setCell (by simp) _⟩
end Go.Proofs.YtbljmfcifljkaaaGreatDoor

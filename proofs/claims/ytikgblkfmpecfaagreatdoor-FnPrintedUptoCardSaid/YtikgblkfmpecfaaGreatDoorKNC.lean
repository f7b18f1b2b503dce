/-
  The draws: named terms. Own work.
-/
import Derived.Test.YtikgblkfmpecfaaGreatDoorKNB
import Derived.Test.YtikgblkfmpecfaaGreatDoorKL
import Derived.Test.YtikgblkfmpecfaaGreatDoorKLW
import Derived.Deep.CutBlock
import Derived.Deep.DeepCutAuto
set_option linter.all false
set_option maxRecDepth 100000
set_option maxHeartbeats 8000000
namespace Go.Proofs.YtikgblkfmpecfaaGreatDoor
open Go.RowKit
theorem DfsRow.cur {bc B:Nat} {w w':World} {v:Value} {xs:List (Df × Value)} (h:DfsRow w B v xs) (hE:Exc (fun k=>k=bc) w w') (hB:bc<B):DfsRow w' B v xs:=by
 have key:∀ {e sz:Nat} {u:Value} {n:Nat} {cs:List Value},w.ownsRow B e sz u n cs → w'.ownsRow B e sz u n cs:=fun ho=>owns_exc hE ho fun j hj e=>by
  have:=(World.ownsRow.lt ho j hj).1
  have:j=bc:=e
  omega
 exact ⟨key h.1,fun x hx=>key (h.2.1 x hx),h.2.2⟩
theorem lbT_small {L:List Df} (h:good L=true) (ns:List Nd):Sm ((typedL (leafIn L) ns).getD (0,0)):=by
 unfold good at h
 simp only [Bool.and_eq_true] at h
 cases ht:typedL (leafIn L) ns with
 | none=>simp [Sm]
 | some x=>exact typedL_sm (fun n x hk hx=>leafT_sm (good_sm h.2) ((leafT_eq (good_uniq h.2) n hk).trans hx)) ht
theorem st_init {bc m k B n:Nat} {w w3:World} {a:Option Addr} {c:Nat} {ns:List Nd} (hbz:bc<w.heap.size) (hE:Exc (fun k=>k=bc) (w.alloc (.cells #[.slice none 0 0] 27)) w3) (hc:Cur bc m w3) (ho:NdsOwn w3 B (.slice a n c) ns) (hB:w.heap.size<B) (hd:Dn k ns) :
  LySt bc m k w w3.heap.size (w3.alloc (.cells #[.slice a n c] 27)) (.slice a n c) ns:=by
 have hs:=hE.size
 simp only [World.size_alloc] at hs
 have hz:w.heap.size<w3.heap.size:=by omega
 have hne:¬ w.heap.size=bc:=by omega
 have q0:w3.cell? ⟨w.heap.size,0,none⟩=some (.slice none 0 0):=(hE.cell.1 _ _ (by simp) hne).trans (by simp [go_sem])
 have qf:w3.frozen? ⟨w.heap.size,0,none⟩=false:=(hE.cell.2 _ _ (by simp) hne).trans (by simp [go_sem])
 refine ⟨by go_simp,by go_simp,hz,by go_simp,by go_simp,NdsOwn.mono (by omega) (NdsOwn.keep (alloc_below _ _) ho),fun j hj e=>?_,hd,hc.keep (alloc_below _ _),?_⟩
 ·have:=(World.ownsRow.lt ho j hj).2
  omega
 ·exact ((((Exc.refl (fun k=>k=bc) w).below (alloc_below w _)).trans hE).below (alloc_below _ _))
theorem lbType_draw (v vb:Value) (L:List Df) (ns:List Nd) (w:World) (hv:DfsAt w v L) (hg:good L=true) (hvb:NdsAt w vb ns) (hok:NdsOk ns) :
  Calls Tryz.prog 75 #[v,.agg #[vb]] w fun e w'=>∃ (P Q:Int) (R:Bool),e=.returned (.tuple #[.int .i64 P,.int .i64 Q,.bool R])∧0≤Q∧Q≤12∧Below w.heap.size w w':=by
 have hs:=lbT_small hg ns
 have hg2:=hg
 unfold good at hg2
 simp only [Bool.and_eq_true,decide_eq_true_eq] at hg2
 refine (lbType_any v vb L ns w hv (by omega) (good_sm hg2.2) hvb hok).mono ?_
 rintro e w' ⟨rfl,hb⟩
 obtain ⟨_,_,s1,s2⟩:=hs
 exact ⟨_,_,_,rfl,s1,s2,hb⟩
theorem df_cells {W:World} {B:Nat} {g n lc:Nat} {xs:List (Df × Value)} (h:DfsRow W B (.slice (some ⟨g,0,none⟩) n lc) xs) (q:Nat) (hq:q<xs.length) :
  W.cell? ⟨g,q * 4,none⟩=some (.string xs[q].1.name)∧W.cell? ⟨g,q * 4+1,none⟩=some (.int .i64 xs[q].1.inn)∧W.cell? ⟨g,q * 4+2,none⟩=some (.int .i64 xs[q].1.out)∧∃ a c,W.cell? ⟨g,q * 4+3,none⟩=some (.slice a xs[q].1.body.length c):=by
 obtain ⟨a,cap,e,hc,hat⟩:=h.at
 obtain ⟨b,o,e2,hq2,c0,c1,c2,vb,c3,hvb⟩:=hat q (by simpa using hq)
 simp only [Value.slice.injEq] at e
 rw [← e.1] at e2
 simp only [Option.some.injEq,Addr.mk.injEq,and_true] at e2
 obtain ⟨rfl,rfl⟩:=e2
 simp only [List.getElem_map] at c0 c1 c2 hvb
 obtain ⟨a3,c3',rfl⟩:=hvb.slice
 rw [Nat.zero_add] at c0 c1 c2 c3
 exact ⟨c0,c1,c2,a3,c3',c3⟩
theorem dfx_box {w5 w6:World} {nm:ByteArray} {di dO:Int} {u:Value} (hb:Below (w5.alloc (.cells #[.string nm,.int .i64 di,.int .i64 dO,u] 101)).heap.size (w5.alloc (.cells #[.string nm,.int .i64 di,.int .i64 dO,u] 101)) w6) :
  w6.cell? ⟨w5.heap.size,0,none⟩=some (.string nm)∧w6.cell? ⟨w5.heap.size,1,none⟩=some (.int .i64 di)∧w6.cell? ⟨w5.heap.size,2,none⟩=some (.int .i64 dO) :=
 ⟨(hb.cell (p:=⟨w5.heap.size,0,none⟩) (by simp)).trans (by simp [go_sem]),(hb.cell (p:=⟨w5.heap.size,1,none⟩) (by simp)).trans (by simp [go_sem]),(hb.cell (p:=⟨w5.heap.size,2,none⟩) (by simp)).trans (by simp [go_sem])⟩
def NmP (bc m:Nat) (w:World) (e:Ending) (w':World):Prop:=∃ v' ns,e=.returned (.agg #[v'])∧Dn 250 ns∧NdsOwn w' (w.heap.size+1) v' ns∧Cur bc m w'∧Exc (fun k=>k=bc) w w'
theorem named_any (bc m:Nat) (p i o:Int) (lv:Value) (xs:List (Df × Value)) (w:World) (h:Cur bc m w) (hm:m+1000≤1099511627776) (hp:1<p) (hp2:p≤97) (hi0:0≤i) (hi:i≤12) (ho0:0≤o) (ho:o≤12)
  (hl:DfsRow w (bc+1) lv xs) (hg:good (xs.map Prod.fst)=true) (hn:xs.length≤12) :
  Calls Tryz.prog 37 #[.pointer (some ⟨bc,0,none⟩),.int .i64 p,lv,.int .i64 i,.int .i64 o] w (NmP bc (m+1000) w):=by
 have hbz:=h.lt
 obtain ⟨la,lc,rfl⟩:=hl.shape xs.length rfl
 go_enter Tryz.func37,Tryz.ntmps37
 have h1:Cur bc m (w.alloc (.cells #[.slice none 0 0] 27)):=h.keep (alloc_below _ _)
 go_upto_block 0 with (first
  | (go_at_call 73;refine (layers_any bc (m+2) p i x 2 false _ hc2 (by omega) hp hp2 hi0 hi x0 (by omega) (by omega) (by omega)).mono ?_;rintro e w3 ⟨v3,ns3,rfl,hd3,ho3,hc3,hx3⟩;obtain ⟨a3,c3,rfl⟩:=ho3.slice;have hst:=st_init hbz (hx2.trans hx3) hc3 ho3 (by have:=hx2.size;simp only [World.size_alloc] at this;omega) hd3)
  | (go_at_call 38;refine (pick_any bc _ 4 _ hst.cur (by omega) (by omega)).mono ?_;rintro e w4 ⟨k,rfl,k0,k1,k2,hc4,hx4⟩;have hst4:=hst.cur' hx4 hbz hc4;have k4:k≤3:=by omega)
  | (go_at_call 38;refine (pick_any bc m 4 _ h1 (by omega) (by omega)).mono ?_;rintro e w2 ⟨x,rfl,x0,x1,x2,hc2,hx2⟩))
 have hb13:=hst.lt
 obtain ⟨b13,hb13e⟩:∃ b13,b13=w3.heap.size:=⟨_,rfl⟩
 rw [← hb13e] at hst4 hb13
 rw [← hb13e]
 clear hst hx4 hx3 hx2 ho3 hb13e k2 k1 hc2 hc3 hc4 h1 x0 x1 x2 hd3
 go_cut [12] (fun s12 wx=>∃ v ns,LySt bc (m+240) 130 w b13 wx v ns)
 case first =>
  go_wp2_with fail
  go_loopw [12] (fun kv wr=>∃ (k:Int) (j:Nat) (v:Value) (ns:List Nd),kv=.int .i64 k∧0≤k∧k+j≤3∧LySt bc (m+204+4 * j) (100+6 * j) w b13 wr v ns) (fun kv _=>(intOf kv).toNat)
  case atStart=>exact ⟨k,0,_,_,rfl,k0,by omega,by simpa using hst4⟩
  case round =>
   clear hst4 k0 k4
   obtain ⟨k,j,v,ns,rfl,hk0,hkj,hst⟩:=hrel
   by_cases hk:0<k
   ·by_cases hxe:xs.length=0
    ·go_wp2_with fail
     go_meet
     case rel=>exact ⟨v,ns,hst.mono (by omega) (by omega)⟩
    ·have hlr:=hl.cur hst.ex (by omega)
     obtain ⟨g,lcap,e,hcap,_,hgB,hgz⟩:=owns_some' hlr.1 (by omega)
     simp only [Value.slice.injEq] at e
     obtain ⟨rfl,_,rfl⟩:=e
     have hpick:=(pick_any bc _ xs.length _ hst.cur (by omega) (by omega)).mono (R':=fun e w5=>∃ q:Nat,∃ hq:q<xs.length,∃ (nm:ByteArray) (di dO:Int) (ba:Option Addr) (bn bcp:Nat),e=.returned (.int .i64 (q:Int))∧nm.size≤8∧0≤di∧di≤12∧0≤dO∧dO≤12 ∧
       w5.cell? ⟨g,q * 4,none⟩=some (.string nm)∧w5.cell? ⟨g,q * 4+1,none⟩=some (.int .i64 di)∧w5.cell? ⟨g,q * 4+2,none⟩=some (.int .i64 dO)∧w5.cell? ⟨g,q * 4+3,none⟩=some (.slice ba bn bcp)∧Cur bc (m+204+4 * j+2) w5∧Exc (fun k=>k=bc) wr w5) (by
      rintro e w5 ⟨y,rfl,y0,y1,y2,hc5,hx5⟩
      obtain ⟨q,rfl⟩:=Int.eq_ofNat_of_zero_le y0
      have hq:q<xs.length:=by omega
      obtain ⟨d0,d1,d2,ba,bcp,d3⟩:=df_cells (hlr.cur hx5 (by omega)) q hq
      have hg2:=hg
      unfold good at hg2
      simp only [Bool.and_eq_true,decide_eq_true_eq] at hg2
      have hmem:xs[q].1 ∈ xs.map Prod.fst:=List.mem_map_of_mem (List.getElem_mem _)
      obtain ⟨s1,s2,s3,s4⟩:=good_sm hg2.2 _ hmem
      exact ⟨q,hq,_,_,_,ba,_,bcp,rfl,nameB_size (good_names hg _ hmem),s1,s2,s3,s4,d0,d1,d2,d3,hc5,hx5⟩)
     go_wp2_with (first
      | (go_at_call 38;refine (pick_any bc _ (Q - di+1) _ hst6.cur (by omega) (by omega)).mono ?_;rintro e w7 ⟨at_,rfl,t0,t1,t2,hc7,hx7⟩;have hst7:=hst6.cur' hx7 hbz hc7;have hnb:¬ w5.heap.size=bc:=(by have:=cell_lt hst5.r0;omega);have p07:=(hx7.cell.1 _ _ (cell_lt p0) hnb).trans p0;have p17:=(hx7.cell.1 _ _ (cell_lt p1) hnb).trans p1)
      | (go_at_call 38;refine hpick.mono ?_;rintro e w5 ⟨q,hq,nm,di,dO,ba,bn,bcp,rfl,nm8,di0,di1,dO0,dO1,d0,d1,d2,d3,hc5,hx5⟩;have hst5:=hst.cur' hx5 hbz hc5;have hl5:=hlr.cur hx5 (by omega);obtain ⟨av,cv,rfl⟩:=hst5.own.slice;have y0:=hst5.t0;have yz:=cell_lt y0;have hok:=hst5.dn.ok (by omega);have hba:=alloc_below w5 (.cells #[.string nm,.int .i64 di,.int .i64 dO,.slice ba bn bcp] 101))
      | (go_at_call 75;refine (lbType_draw _ _ (xs.map Prod.fst) ns _ (hl5.keep hba).at hg (NdsOwn.keep hba hst5.own).at hok).mono ?_;rintro e w6 ⟨P,Q,R,rfl,Q0,Q1,hb6⟩;have hst6:=(hst5.keep hba hbz).keep hb6 hbz;obtain ⟨p0,p1,p2⟩:=dfx_box hb6))
     rotate_left
     all_goals try (refine ⟨⟨k - 1,j+1,_,ns,rfl,by omega,by omega,hst6.mono (by omega) (by omega)⟩,by simp [intOf];omega⟩)
     obtain ⟨W8,hW8⟩:∃ W8,W8=(w7.alloc (.cells #[.int .i64 17,.int .i64 0,.string nm] 87)).alloc (.cells #[.slice (some ⟨w7.heap.size,0,none⟩) 1 1] 27):=⟨_,rfl⟩
     have hB78:Below w7.heap.size w7 W8:=by rw [hW8];exact ((Below.refl _ _).alloc (Nat.le_refl _) _).alloc (by simp) _
     have st8:=hst7.keep hB78 hbz
     have lo8:NdsOwn W8 w7.heap.size (.slice (some ⟨w7.heap.size,0,none⟩) 1 1) [⟨17,0,nm⟩]:=by
      rw [hW8]
      exact NdsOwn.keep (alloc_below _ _) (World.ownsRow_lit (base:=w7.heap.size) (size:=3) (e:=87) w7 #[.int .i64 17,.int .i64 0,.string nm] 1 (Nat.le_refl _) (by unfold maxLen;omega) rfl)
     have q18:W8.cell? ⟨w7.heap.size+1,0,none⟩=some (.slice (some ⟨w7.heap.size,0,none⟩) 1 1):=by rw [hW8];simp [go_sem]
     have p18:=cell_keep hB78 p17
     have z18:=cell_lt q18
     have zp18:=cell_lt p18
     have g13:=st8.t0
     have gz13:=cell_lt g13
     have hQd:0≤at_∧at_≤Q - di:=by omega
     have hs13:b13<w7.heap.size:=cell_lt hst7.t0
     have hsw:w.heap.size<w7.heap.size:=by have:=hst7.lt;omega
     rw [← hW8]
     clear hW8 hpick y0 yz hst hst5 hst6 hx5 hx7 d0 d1 d2 d3 p0 p1 p2 p07 p17 hb6 hba hlr hl5 hok hc5 hc7
     refine region_acts2 (C:=Exc (NoT) _) 12 [0,1,2,3,4,5,6,7,8,9,10] [11] (by kernel_rfl) (by kernel_rfl) (Exc.grows _ _) (Exc.refl _ _) ?_
     iterate 9 (apply x_st rfl rfl rfl;(focus intro u hc' hf';go_simp <;> rfl);intro K hK;go_simp;apply hK;clear hK K)
     have B89:∀ w9,Exc NoT W8.drew w9 → Below W8.heap.size W8 w9:=fun w9 hb=>((Below.refl _ _).drew).trans (hb.toBelow.mono (by simp))
     refine x_call rfl rfl rfl (Exc.grows _ _) (Exc.refl _ _) 77 (fun K hK=>?_);apply Exists.intro;refine ⟨fun w' hw'=>?_,fun w9 hw9 hbw9=>?_⟩;(focus go_simp;rfl);refine (tmLayer_any _ _ _ _ _ (NdsOwn.keep (B89 _ hw9) lo8).at (by simp)).mono ?_;rintro e w10 ⟨v10,rfl,hn10,ho10,hb10⟩;refine ⟨_,rfl,hb10,fun hx=>?_⟩;go_simp;apply hK;clear hK K
     have own10:=lay_own (NdsOwn.keep (B89 _ hw9) lo8) hb10 (by have:=(B89 _ hw9).size;omega) hn10 ho10
     have dn10:Dn 5 (layL at_ [⟨17,0,nm⟩] (Q - di - at_)):=Dn.lay _ _ (by omega) (by omega) (Dn.leaf (.inl ⟨rfl,nm8⟩) nm8)
     have e1:IntKind.i64.wrap (Q - di)=Q - di:=IntWalk.i64_in _ (by omega)
     have e2:IntKind.i64.wrap (Q - di - at_)=Q - di - at_:=IntWalk.i64_in _ (by omega)
     obtain ⟨ys,hys⟩:∃ ys,ys=layL at_ [⟨17,0,nm⟩] (Q - di - at_):=⟨_,rfl⟩
     rw [e1,e2,← hys] at own10 hn10 ho10
     rw [← hys] at dn10
     have dl10:ys.length≤5:=by obtain ⟨_,_,_,h,_⟩:=dn10;exact h
     have dlns:ns.length≤118:=by obtain ⟨_,_,_,h,_⟩:=st8.dn;omega
     obtain ⟨a10,c10,rfl⟩:=own10.slice
     clear hys hn10 ho10 e1 e2
     have st10:=(st8.keep (B89 _ hw9) hbz).keep hb10 hbz
     refine x_call rfl rfl rfl (Exc.grows _ _) (hx) 76 (fun K hK=>?_);apply Exists.intro;refine ⟨fun w' hw'=>?_,fun w11 hw11 hbw11=>?_⟩;(focus go_simp;rfl);refine (tmSeq_any _ _ ns ys _ (st10.keep hbw11 hbz).own.at (NdsOwn.keep hbw11 own10).at (by omega) (by omega)).mono ?_;rintro e w12 ⟨v12,rfl,ho12,hb12⟩;refine ⟨_,rfl,hb12,fun hx=>?_⟩;go_simp;apply hK;clear hK K
     have st12:=(st10.keep hbw11 hbz).keep hb12 hbz
     have hw11b:=cell_lt (st10.keep hbw11 hbz).t0
     have hw11l:=(st10.keep hbw11 hbz).lt
     have dz:=(Dn.bin 15 (.inl rfl) st8.dn dn10).mono (k':=100+6 * (j+1)) (by omega)
     obtain ⟨zs,hzs⟩:∃ zs,zs=ns ++ ys ++ [(⟨15,0,ByteArray.empty⟩:Nd)]:=⟨_,rfl⟩
     rw [← hzs] at ho12 dz
     clear hzs
     have ne12:∀ q,v12.ownBlock=some q → q ≠ b13:=fun q hq=>by have:=(World.ownsRow.lt ho12 q hq).1;omega
     obtain ⟨a12,c12,rfl⟩:=ho12.slice
     refine x_nil ?_
     refine ⟨Exc (fun j=>j=b13) w12,w12.heap.size,Exc.grows _ _,Exc.refl _ _,?_⟩
     refine x_do rfl rfl rfl (Exc.grows _ _) (Exc.refl _ _) (fun K hK=>?_)
     intro w13 hw13 hb13'
     have st13:=st12.keep hb13' hbz
     have g0:=st13.t0
     have gf:=st13.tf
     have gz:=cell_lt st12.t0
     refine ⟨w13.setCell ⟨b13,0,none⟩ (.slice a12 zs.length c12),?_,⟨exc_set hw13 (.inr rfl) _,by simp,fun q hq _ _=>Below.heap_setCell _ _ _ _ (fun hh=>by have:q=b13:=hh;omega)⟩,?_⟩
     ·go_simp
     go_simp
     refine hK _ _ _ ?_
     clear hK K
     refine x_nil ?_
     have st14:=st13.set hbz (NdsOwn.mono (by omega) (NdsOwn.keep hb13' ho12)) ne12 dz
     go_wp2
     exact ⟨⟨k - 1,j+1,_,zs,rfl,by omega,by omega,st14.mono (by omega) (by omega)⟩,by simp [intOf];omega⟩
   ·go_wp2_with fail
    go_meet
    case rel=>exact ⟨v,ns,hst.mono (by omega) (by omega)⟩
 case rest =>
  obtain ⟨v,ns,hst⟩:=hcut
  obtain ⟨av,cv,rfl⟩:=hst.own.slice
  have y0:=hst.t0
  have yz:=cell_lt y0
  have hlr:=hl.cur hst.ex (by omega)
  have hok:=hst.dn.ok (by omega)
  clear hst4 k0 k4
  go_wp2_with (go_at_call 75;refine (lbType_draw _ _ (xs.map Prod.fst) ns _ hlr.at hg hst.own.at hok).mono ?_;rintro e w5 ⟨P,Q,R,rfl,Q0,Q1,hb5⟩)
  have st5:=hst.keep hb5 hbz
  clear y0 yz hst hlr hb5
  have y0:=st5.t0
  have yz:=cell_lt y0
  have hs5:=st5.ex.size
  have hlt:=st5.lt
  have hbbc:¬ b13=bc:=by omega
  obtain ⟨_,dl,dc⟩:=st5.dn.one
  have dln:ns.length≤130:=by obtain ⟨_,_,_,h,_⟩:=st5.dn;exact h
  have B57:∀ w7,Below w5.drew.heap.size w5.drew w7 → Below w5.heap.size w5 w7:=fun w7 hb=>((Below.refl _ _).drew).trans (hb.mono (by simp))
  refine region_acts2 (C:=Exc (fun k=>k=bc) _) 12 [0,1,2,3,4,5,6] [7] (by kernel_rfl) (by kernel_rfl) (Exc.grows _ _) (Exc.refl _ _) ?_
  iterate 5 (apply x_sT rfl rfl rfl;(focus intro u hc' hf';(try simp only [World.size_drew] at hc' hf');go_simp <;> rfl);intro K hK;go_simp;apply hK;clear hK K)
  refine x_callT rfl rfl rfl (Exc.refl _ _) 73 (fun k hk=>by have:k=bc:=hk;simp;omega) (fun K hK=>?_);apply Exists.intro;refine ⟨fun w' hw'=>?_,fun w7 hw7 hbw7=>?_⟩;(focus go_simp;rfl);refine (layers_any bc _ p Q o 1 false _ (st5.keep (B57 _ hbw7) hbz).cur (by omega) hp hp2 Q0 Q1 ho0 ho (by omega) (by omega)).mono ?_;rintro e w8 ⟨v8,ms,rfl,hd8,ho8,hc8,hx8⟩;refine ⟨_,rfl,hx8,fun hx=>?_⟩;go_simp;apply hK;clear hK K
  obtain ⟨a8,c8,rfl⟩:=ho8.slice
  have st8:=(st5.keep (B57 _ hbw7) hbz).cur' hx8 hbz hc8
  have dlm:ms.length≤100:=by obtain ⟨_,_,_,h,_⟩:=hd8;exact h
  refine x_call rfl rfl rfl (Exc.grows _ _) (hx) 76 (fun K hK=>?_);apply Exists.intro;refine ⟨fun w' hw'=>?_,fun w9 hw9 hbw9=>?_⟩;(focus go_simp;rfl);refine (tmSeq_any _ _ ns ms _ (st8.keep hbw9 hbz).own.at (NdsOwn.keep hbw9 ho8).at (by omega) (by omega)).mono ?_;rintro e w10 ⟨v10,rfl,ho10,hb10⟩;refine ⟨_,rfl,hb10,fun hx=>?_⟩;go_simp;apply hK;clear hK K
  have st10:=(st8.keep hbw9 hbz).keep hb10 hbz
  have hs9:w.heap.size+1≤w9.heap.size:=by have:=cell_lt (st8.keep hbw9 hbz).r0;omega
  have dz:=Dn.bin 15 (.inl rfl) st5.dn hd8
  obtain ⟨zs,hzs⟩:∃ zs,zs=ns ++ ms ++ [(⟨15,0,ByteArray.empty⟩:Nd)]:=⟨_,rfl⟩
  rw [← hzs] at ho10 dz
  clear hzs
  obtain ⟨a10,c10,rfl⟩:=ho10.slice
  refine x_nil ?_
  refine ⟨Exc (fun j=>j=w.heap.size) w10,w10.heap.size,Exc.grows _ _,Exc.refl _ _,?_⟩
  refine x_do rfl rfl rfl (Exc.grows _ _) (Exc.refl _ _) (fun K hK=>?_)
  intro w11 hw11 hb11
  have st11:=st10.keep hb11 hbz
  have g0:=st11.r0
  have gf:=st11.rf
  have gz:=cell_lt st10.r0
  have gz1:=cell_lt g0
  refine ⟨w11.setCell ⟨w.heap.size,0,none⟩ (.slice a10 zs.length c10),?_,⟨exc_set hw11 (.inr rfl) _,by simp,fun q hq _ _=>Below.heap_setCell _ _ _ _ (fun hh=>by have:q=w.heap.size:=hh;omega)⟩,?_⟩
  ·go_simp
  go_simp
  refine hK _ _ _ ?_
  clear hK K
  refine x_nil ?_
  go_wp2
  have hz7:(w11.setCell ⟨w.heap.size,0,none⟩ (.slice a10 zs.length c10)).cell? ⟨w.heap.size,0,none⟩=some (.slice a10 zs.length c10):=by go_simp
  have hS:Exc (fun k=>k=w.heap.size) w11 (w11.setCell ⟨w.heap.size,0,none⟩ (.slice a10 zs.length c10)):=exc_set (a:=⟨w.heap.size,0,none⟩) (Exc.refl (fun k=>k=w.heap.size) _) (.inr rfl) _
  refine bodyPost_ret (v:=.agg #[.slice a10 zs.length c10]) (by simp [results,Tryz.results37,go_sem,hz7]) rfl ⟨_,zs,rfl,dz.mono (by omega),NdsOwn.setLow (NdsOwn.mono hs9 (NdsOwn.keep hb11 ho10)) (by show w.heap.size<_;omega) _,(st11.cur.mono (by omega)).exc (T:=fun k=>k=w.heap.size) hS (fun k hk=>by omega),exc_set st11.ex (.inl (Nat.le_refl _)) _⟩
end Go.Proofs.YtikgblkfmpecfaaGreatDoor
/-
  The draws: libraries. Own work.
-/
namespace Go.Proofs.YtikgblkfmpecfaaGreatDoor
open Go.RowKit
def nmL:List ByteArray:=[⟨#[102]⟩,⟨#[103]⟩,⟨#[104,50]⟩,⟨#[108,111,110,103,110,97,109,101]⟩,⟨#[120]⟩]
structure LbSt (bc m:Nat) (w wr:World) (v:Value) (xs:List (Df × Value)):Prop where
 row:DfsRow wr (w.heap.size+1) v xs
 gd:good (xs.map Prod.fst)=true
 cur:Cur bc m wr
 ex:Exc (fun k=>k=bc) w wr
 nm:∀ q,∀ h:q<nmL.length,wr.cell? ⟨w.heap.size,q,none⟩=some (.string nmL[q])
 ok:∀ d ∈ xs.map Prod.fst,DfOk d
theorem LbSt.cur' {bc m m':Nat} {w wr w2:World} {v:Value} {xs:List (Df × Value)} (h:LbSt bc m w wr v xs) (hE:Exc (fun k=>k=bc) wr w2) (hb:bc<w.heap.size) (hc:Cur bc m' w2):LbSt bc m' w w2 v xs :=
 ⟨h.row.cur hE (by omega),h.gd,hc,h.ex.trans hE,fun q hq=>(hE.cell.1 _ _ (cell_lt (h.nm q hq)) (by omega)).trans (h.nm q hq),h.ok⟩
theorem LbSt.keep {bc m:Nat} {w wr w2:World} {v:Value} {xs:List (Df × Value)} (h:LbSt bc m w wr v xs) (hb:Below wr.heap.size wr w2) (hbc:bc<w.heap.size):LbSt bc m w w2 v xs :=
 h.cur' ((Exc.refl _ _).below hb) hbc (h.cur.keep hb)
theorem LbSt.mono {bc m m':Nat} {w wr:World} {v:Value} {xs:List (Df × Value)} (h:LbSt bc m w wr v xs) (hm:m≤m'):LbSt bc m' w wr v xs:=⟨h.row,h.gd,h.cur.mono hm,h.ex,h.nm,h.ok⟩
theorem nm_size (q:Nat) (h:q<nmL.length):nmL[q].size≤1048576:=by
 have:∀ x ∈ nmL,x.size≤8:=by decide
 have:=this _ (List.getElem_mem h)
 omega
theorem LbSt.app {bc m:Nat} {w w1 w2:World} {o:Obj} {v v' vb:Value} {xs:List (Df × Value)} {d:Df} (h:LbSt bc m w w1 v xs) (hbz:bc<w.heap.size) (hr:DfsRow w2 (w.heap.size+1) v' (xs ++ [(d,vb)])) (hg:(w1.alloc o).grownBy w2 v.ownBlock)
  (hgd:good (xs.map Prod.fst ++ [d])=true) (hok:DfOk d):LbSt bc m w w2 v' (xs ++ [(d,vb)]):=by
 have hE:Exc (fun k=>v.ownBlock=some k) w1 w2:=((Exc.refl (fun k=>v.ownBlock=some k) w1).below (alloc_below _ o)).grown hg (fun k hk=>.inr hk)
 have hlt:=fun k hk=>(World.ownsRow.lt h.row.1 k hk).1
 have hs:=h.ex.size
 have nt:∀ k,k≤w.heap.size → ¬ v.ownBlock=some k:=fun k hk e=>by have:=hlt k e;omega
 refine ⟨hr,by rw [List.map_append];exact hgd,h.cur.exc hE (fun k hk=>by have:=hlt k hk;omega),⟨hE.os.trans h.ex.os,hE.tape.trans h.ex.tape,hE.output.trans h.ex.output,Nat.le_trans hs hE.size,fun k hk ht=>(hE.block k (Nat.lt_of_lt_of_le hk hs) (nt k (by omega))).trans (h.ex.block k hk ht)⟩,fun q hq=>(hE.cell.1 _ _ (cell_lt (h.nm q hq)) (nt _ (Nat.le_refl _))).trans (h.nm q hq),fun x hx=>?_⟩
 rw [List.map_append] at hx
 rcases List.mem_append.1 hx with hx|hx
 ·exact h.ok x hx
 ·simp at hx;subst hx;exact hok
structure TbSt (bc m:Nat) (wr wx:World) (tb:Nat) (vb:Value) (nb:List Nd):Prop where
 cur:Cur bc m wx
 ex:Exc (fun k=>k=bc) wr wx
 t0:wx.cell? ⟨tb,0,none⟩=some vb
 tf:wx.frozen? ⟨tb,0,none⟩=false
 tl:wr.heap.size≤tb
 own:NdsOwn wx wr.heap.size vb nb
 ne:∀ k,vb.ownBlock=some k → k ≠ tb
 dn:Dn 250 nb
theorem TbSt.cur' {bc m m':Nat} {wr wx w2:World} {tb:Nat} {vb:Value} {nb:List Nd} (h:TbSt bc m wr wx tb vb nb) (hE:Exc (fun k=>k=bc) wx w2) (hb:bc<wr.heap.size) (hc:Cur bc m' w2):TbSt bc m' wr w2 tb vb nb:=by
 have z0:=cell_lt h.t0
 have hl:=h.tl
 exact ⟨hc,h.ex.trans hE,(hE.cell.1 _ _ z0 (by omega)).trans h.t0,(hE.cell.2 _ _ z0 (by omega)).trans h.tf,hl,owns_exc hE h.own (fun k hk e=>by have:=(World.ownsRow.lt h.own k hk).1;have:k=bc:=e;omega),h.ne,h.dn⟩
theorem TbSt.keep {bc m:Nat} {wr wx w2:World} {tb:Nat} {vb:Value} {nb:List Nd} (h:TbSt bc m wr wx tb vb nb) (hb:Below wx.heap.size wx w2) (hbc:bc<wr.heap.size):TbSt bc m wr w2 tb vb nb :=
 h.cur' ((Exc.refl _ _).below hb) hbc (h.cur.keep hb)
theorem TbSt.mono {bc m m':Nat} {wr wx:World} {tb:Nat} {vb:Value} {nb:List Nd} (h:TbSt bc m wr wx tb vb nb) (hm:m≤m'):TbSt bc m' wr wx tb vb nb:=⟨h.cur.mono hm,h.ex,h.t0,h.tf,h.tl,h.own,h.ne,h.dn⟩
theorem TbSt.set {bc m:Nat} {wr wx:World} {tb:Nat} {vb v':Value} {nb ns':List Nd} (h:TbSt bc m wr wx tb vb nb) (hbc:bc<wr.heap.size) (ho:NdsOwn wx wr.heap.size v' ns') (hne:∀ k,v'.ownBlock=some k → k ≠ tb) (hd:Dn 250 ns'):TbSt bc m wr (wx.setCell ⟨tb,0,none⟩ v') tb v' ns':=by
 have t0:=h.t0
 have z0:=cell_lt t0
 have tf:=h.tf
 have tl:=h.tl
 have hS:Exc (fun k=>k=tb) wx (wx.setCell ⟨tb,0,none⟩ v'):=exc_set (a:=⟨tb,0,none⟩) (Exc.refl (fun k=>k=tb) _) (.inr rfl) _
 exact ⟨h.cur.exc (T:=fun k=>k=tb) hS (fun k hk=>by omega),exc_set h.ex (.inl (by show wr.heap.size≤tb;exact tl)) _,by go_simp,by go_simp,tl,owns_exc hS ho (fun k hk e=>hne k hk e),hne,hd⟩
theorem tb_start {bc m:Nat} {wr w6:World} {a6:Option Addr} {c6:Nat} {ns6:List Nd} (hbc:bc<wr.heap.size) (hE:Exc (fun k=>k=bc) wr w6) (hc:Cur bc m w6) (ho:NdsOwn w6 wr.heap.size (.slice a6 ns6.length c6) ns6) (hd:Dn 250 ns6) :
  TbSt bc m wr (w6.alloc (.cells #[.slice a6 ns6.length c6] 27)) w6.heap.size (.slice a6 ns6.length c6) ns6:=by
 have hz:=hE.size
 exact ⟨hc.keep (alloc_below _ _),hE.below (alloc_below _ _),by simp [go_sem],by simp [go_sem],hz,NdsOwn.keep (alloc_below _ _) ho,fun k hk e=>by have:=(World.ownsRow.lt ho k hk).2;omega,hd⟩
def LibP (bc m:Nat) (w:World) (e:Ending) (w':World):Prop:=∃ v xs,e=.returned v∧DfsRow w' (w.heap.size+1) v xs∧good (xs.map Prod.fst)=true∧xs.length≤4∧(∀ d ∈ xs.map Prod.fst,DfOk d)∧Cur bc m w'∧Exc (fun k=>k=bc) w w'
theorem library_any (bc m:Nat) (p:Int) (w:World) (h:Cur bc m w) (hm:m+8000≤1099511627776) (hp:1<p) (hp2:p≤97) :
  Calls Tryz.prog 36 #[.pointer (some ⟨bc,0,none⟩),.int .i64 p] w (LibP bc (m+8000) w):=by
 have hbz:=h.lt
 have hst0:LbSt bc m w (w.alloc (.cells #[.string ⟨#[102]⟩,.string ⟨#[103]⟩,.string ⟨#[104,50]⟩,.string ⟨#[108,111,110,103,110,97,109,101]⟩,.string ⟨#[120]⟩] 9)) (.slice none 0 0) []:=by
  refine ⟨⟨⟨rfl,.inl ⟨rfl,rfl⟩⟩,by simp,List.Pairwise.nil⟩,by decide,h.keep (alloc_below _ _),(Exc.refl _ _).below (alloc_below _ _),?_,by simp⟩
  intro q hq
  match q,hq with
  | 0,_=>simp [go_sem,nmL]
  | 1,_=>simp [go_sem,nmL]
  | 2,_=>simp [go_sem,nmL]
  | 3,_=>simp [go_sem,nmL]
  | 4,_=>simp [go_sem,nmL]
 go_enter Tryz.func36,Tryz.ntmps36
 go_wp2_with (go_at_call 38;refine (pick_any bc m 5 _ hst0.cur (by omega) (by omega)).mono ?_;rintro e w2 ⟨k,rfl,k0,k1,k2,hc2,hx2⟩;have hst2:=hst0.cur' hx2 hbz hc2;have k4:k≤4:=by omega)
 clear hst0 hx2 hc2 k1 k2
 go_loopw [5,7] (fun lv kv wr=>∃ (k:Int) (j:Nat) (xs:List (Df × Value)),kv=.int .i64 k∧0≤k∧k+j≤4∧xs.length≤j∧LbSt bc (m+2+1900 * j) w wr lv xs) (fun _ kv _=>(intOf kv).toNat)
 case atStart=>exact ⟨k,0,[],rfl,k0,by omega,Nat.le_refl _,hst2.mono (by omega)⟩
 case round =>
  clear hst2 k0 k4
  obtain ⟨k,j,xs,rfl,hk0,hkj,hxl,hst⟩:=hrel
  by_cases hk:0<k
  ·obtain ⟨la,lc,rfl⟩:=hst.row.shape xs.length rfl
   have hx4:xs.length≤3:=by omega
   have hbr:bc<wr.heap.size:=by have:=hst.ex.size;omega
   go_upto_region 8 with (first
    | (go_at_call 73;refine (layers_any bc _ p i o 2 d _ hst5.cur (by omega) hp hp2 i0 (by omega) o0 (by omega) (by omega) (by omega)).mono ?_;rintro e w6 ⟨v6,ns6,rfl,hd6,ho6,hc6,hx6⟩;obtain ⟨a6,c6,rfl⟩:=ho6.slice)
    | (go_at_call 39;refine (one_any bc _ 6 _ hst4.cur (by omega) (by omega)).mono ?_;rintro e w5 ⟨d,rfl,hc5,hx5⟩;have hst5:=hst4.cur' hx5 hbz hc5)
    | (go_at_call 38;refine (pick_any bc _ 3 _ hst3.cur (by omega) (by omega)).mono ?_;rintro e w4 ⟨o,rfl,o0,o1,o2,hc4,hx4⟩;have hst4:=hst3.cur' hx4 hbz hc4)
    | (go_at_call 38;refine (pick_any bc _ 3 _ hst.cur (by omega) (by omega)).mono ?_;rintro e w3 ⟨i,rfl,i0,i1,i2,hc3,hx3⟩;have hst3:=hst.cur' hx3 hbz hc3))
   have hE6:=((hx3.trans hx4).trans hx5).trans hx6
   have st7:=tb_start hbr hE6 hc6 (NdsOwn.mono (by have:=((hx3.trans hx4).trans hx5).size;omega) ho6) (hd6.mono (by omega))
   obtain ⟨tb,htb⟩:∃ tb,tb=w6.heap.size:=⟨_,rfl⟩
   obtain ⟨W7,hW7⟩:∃ W,W=w6.alloc (.cells #[.slice a6 ns6.length c6] 27):=⟨_,rfl⟩
   rw [← htb,← hW7] at st7
   rw [← htb,← hW7]
   clear htb hW7 hE6 hx3 hx4 hx5 hx6 hc3 hc4 hc5 hc6 hst3 hst4 hst5 ho6 hd6 i1 o1
   go_cut [36] (fun s36 wx=>∃ b8,s36=.bool b8∧(b8=true → 0<xs.length)∧∃ vb nb,TbSt bc (m+2+1900 * j+400) wr wx tb vb nb)
   case first =>
    go_wp2_with (go_at_call 39;refine (one_any bc _ 2 _ st7.cur (by omega) (by omega)).mono ?_;rintro e w8 ⟨b,rfl,hc8,hx8⟩;have st8:=(st7.cur' hx8 hbr hc8).mono (m':=m+2+1900 * j+400) (by omega))
    all_goals
     go_meet
     case rel=>exact ⟨_,rfl,by simp,_,_,st8⟩
   case rest =>
    obtain ⟨b8,rfl,hb8,vb,nb,st8⟩:=hcut
    clear st7
    go_upto_if 36 with fail
    go_cut [20] (fun s20 wx=>∃ vb nb,TbSt bc (m+2+1900 * j+1800) wr wx tb vb nb)
    case first =>
     cases b8
     ·go_wp2_with fail
      go_meet
      case rel=>exact ⟨_,_,st8.mono (by omega)⟩
     ·have t0:=st8.t0
      have z0:=cell_lt t0
      have hrow:=(hst.row.cur st8.ex (by omega)).mono (B':=bc+1) (by omega)
      go_wp2_with (go_at_call 37;refine (named_any bc _ p i o _ xs _ st8.cur (by omega) hp hp2 i0 (by omega) o0 (by omega) hrow hst.gd (by omega)).mono ?_;rintro e w9 ⟨v9,ns9,rfl,hd9,ho9,hc9,hx9⟩;obtain ⟨a9,c9,rfl⟩:=ho9.slice;have st9:=st8.cur' hx9 hbr hc9;have t9:=st9.t0;have z9:=cell_lt t9;have tf9:=st9.tf)
      go_meet
      case rel=>exact ⟨_,_,(st9.set hbr (NdsOwn.mono (by have:=st8.ex.size;omega) ho9) (fun k hk e=>by have:=(World.ownsRow.lt ho9 k hk).1;omega) hd9).mono (by omega)⟩
    case rest =>
     obtain ⟨vb,nb,st⟩:=hcut
     clear st8
     obtain ⟨ab,cb,rfl⟩:=st.own.slice
     have hlx:=hst.cur' st.ex hbz st.cur
     have hnl:nmL.length=5:=rfl
     have n0:=hlx.nm xs.length (by omega)
     obtain ⟨nm,hnm⟩:∃ nm,nm=nmL[xs.length]:=⟨_,rfl⟩
     have hns:=nm_size xs.length (by omega)
     rw [← hnm] at n0 hns
     have zn:=cell_lt n0
     have t0:=st.t0
     have z0:=cell_lt t0
     have hi5:(xs.length:Int)<5:=by omega
     clear hnm hnl
     go_wp2_with fail
     refine region_acts (C:=Exc (NoT) _) 6 [0,1,2,3,4,5,6,7,8,9,10] (by kernel_rfl) (by kernel_rfl) (Exc.grows _ _) (Exc.refl _ _) ?_
     iterate 9 (apply x_st rfl rfl rfl;(focus intro u hc' hf';go_simp <;> rfl);intro K hK;go_simp;apply hK;clear hK K)
     refine x_make rfl rfl rfl (Exc.grows _ _) (Exc.refl _ _) (fun b=>.pointer (some ⟨b,0,none⟩)) (fun K hK=>?_)
     apply Exists.intro
     refine ⟨fun w' hw'=>?_,fun bb w10 hw10 hb10 hbo hNb hnb=>?_⟩
     ·go_simp
      rfl
     go_simp
     refine hK _ _ _ ?_
     clear hK K
     refine x_do rfl rfl rfl (Exc.grows _ _) hw10 (fun K hK=>?_)
     intro w11 hw11 hb11
     obtain ⟨m0,m1,m2⟩:=made_cell ((hb11.block bb (made_cell hbo).2.2).trans hbo)
     refine ⟨(((w11.setCell ⟨bb,0,none⟩ (.string nm)).setCell ⟨bb,1,none⟩ (.int .i64 i)).setCell ⟨bb,2,none⟩ (.int .i64 o)).setCell ⟨bb,3,none⟩ (.slice ab nb.length cb),?_,⟨exc_set (exc_set (exc_set (exc_set hw11 (.inl hNb) _) (.inl hNb) _) (.inl hNb) _) (.inl hNb) _,by simp,fun q _ hq _=>by rw [Below.heap_setCell _ _ _ _ (fun h=>hq (by simp [h])),Below.heap_setCell _ _ _ _ (fun h=>hq (by simp [h])),Below.heap_setCell _ _ _ _ (fun h=>hq (by simp [h])),Below.heap_setCell _ _ _ _ (fun h=>hq (by simp [h]))]⟩,?_⟩
     ·go_simp
     go_simp
     refine hK _ _ _ ?_
     clear hK K
     refine x_nil ?_
     simp only [World.size_drew] at hNb
     obtain ⟨W,hW⟩:∃ W,W=(((w11.setCell ⟨bb,0,none⟩ (.string nm)).setCell ⟨bb,1,none⟩ (.int .i64 i)).setCell ⟨bb,2,none⟩ (.int .i64 o)).setCell ⟨bb,3,none⟩ (.slice ab nb.length cb):=⟨_,rfl⟩
     have q0:W.cell? ⟨bb,0,none⟩=some (.string nm):=by rw [hW];clear hW;go_simp
     have q1:W.cell? ⟨bb,1,none⟩=some (.int .i64 i):=by rw [hW];clear hW;go_simp
     have q2:W.cell? ⟨bb,2,none⟩=some (.int .i64 o):=by rw [hW];clear hW;go_simp
     have q3:W.cell? ⟨bb,3,none⟩=some (.slice ab nb.length cb):=by rw [hW];clear hW;go_simp
     have h11:Below wc.heap.size wc w11:=((Below.refl _ _).drew).trans (hw11.toBelow.mono (by simp))
     have hbW:Below wc.heap.size wc W:=by rw [hW];exact (((h11.setCell hNb _).setCell hNb _).setCell hNb _).setCell hNb _
     have zb:=cell_lt q0
     rw [← hW]
     have sW:=st.keep hbW hbr
     have lW:=hst.cur' sW.ex hbz sW.cur
     clear hW h11 m0 m1 m2 hw11 hb11 hbo hw10 hb10 hnb n0 zn t0 z0 hlx
     have upW:∀ {w':World},Exc NoT W.drew w' → Below W.heap.size W w':=fun h=>(Below.refl W.heap.size W).drew.trans (h.toBelow.mono (by simp))
     have hzW:=sW.ex.size
     have hok6:DfOk ⟨nm,i,o,nb⟩:=⟨hns,sW.dn.ok (by omega)⟩
     have hokd:∀ x ∈ xs.map Prod.fst ++ [(⟨nm,i,o,nb⟩:Df)],DfOk x:=by
      intro x hx;rcases List.mem_append.1 hx with hx|hx
      ·exact hst.ok x hx
      ·simp at hx;subst hx;exact hok6
     have hxm:(xs.map Prod.fst).length≤3:=by simpa using hx4
     have hlen:(xs.map Prod.fst ++ [(⟨nm,i,o,nb⟩:Df)]).length≤1048576:=by rw [List.length_append];simp;omega
     go_wp2_with fail
     refine region_acts (C:=Exc (NoT) _) 6 [0,1,2,3,4,5] (by kernel_rfl) (by kernel_rfl) (Exc.grows _ _) (Exc.refl _ _) ?_
     iterate 1 (apply x_st rfl rfl rfl;(focus intro u hc' hf';go_simp <;> rfl);intro K hK;go_simp;apply hK;clear hK K)
     refine x_callB rfl rfl rfl (Exc.grows _ _) (Exc.refl _ _) 74 (fun K hK=>?_);apply Exists.intro;refine ⟨fun w' hw'=>?_,fun wa hwa hbwa=>?_⟩;(focus go_simp;rfl);refine (lbOwn_any _ (xs.map Prod.fst) _ (lW.row.at.keep (upW hwa)) (by omega) (fun x hx=>(hst.ok x hx).2.2)).mono ?_;rintro e w12 ⟨v12,rfl,⟨ys,hys,hrow⟩,hb12⟩;refine ⟨_,rfl,hb12,fun hx=>?_⟩;go_simp;apply hK;clear hK K
     have hrow':DfsRow w12 wa.heap.size v12 ys:=hrow
     have hyl:ys.length≤3:=by have:=congrArg List.length hys;simp at this;omega
     have hza:=(upW hwa).size
     have hb12':=(upW hwa).trans (hb12.mono (upW hwa).size)
     have hz12:=hb12'.size
     iterate 1 (apply x_st rfl rfl rfl;(focus intro u hc' hf';go_simp <;> rfl);intro K hK;go_simp;apply hK;clear hK K)
     refine x_make rfl rfl rfl (Exc.grows _ _) (hx) (fun b=>.slice (some ⟨b,0,none⟩) 1 1) (fun K hK=>?_)
     apply Exists.intro
     refine ⟨fun w' hw'=>?_,fun b13 w13 hw13 hb13 hbo13 hN13 hn13=>?_⟩
     ·obtain ⟨hc',hf'⟩:=hw'.cell
      try simp only [World.size_drew] at hc' hf'
      go_simp
      rfl
     go_simp
     refine hK _ _ _ ?_
     clear hK K
     have hz13:=hb13.size
     have hap:∀ x ∈ ys,Apart x.2 (.slice ab nb.length cb):=fun x hx k hk e=>by
      have h1:=(World.ownsRow.lt (hrow'.2.1 x hx) k hk).1
      have h2:=(World.ownsRow.lt sW.own k e).2
      omega
     refine x_defapp rfl rfl rfl hw13 (.tmp 53) (.tmp 55) rfl wr.heap.size v12 ys ⟨nm,i,o,nb⟩ (.slice ab nb.length cb) b13 rfl rfl (fun k hk=>.inr ⟨by have:=(World.ownsRow.lt hrow'.1 k hk).1;simp;omega,.inr (.inr ⟨(World.ownsRow.lt hrow'.1 k hk).1,(World.ownsRow.lt hrow'.1 k hk).2⟩)⟩) (by omega) (by omega) ((hrow'.keep hb13).mono (by omega)) (NdsOwn.keep hb13 (NdsOwn.keep hb12' sW.own)) hap hbo13 ?_
     intro K hK w14 w15 v15 hw14 hb14 hrow15 hg15 hw15 hl15
     have hat15:DfsAt w15 v15 (xs.map Prod.fst ++ [(⟨nm,i,o,nb⟩:Df)]):=by have:=hrow15.at;simpa [hys] using this
     go_simp
     refine hK _ _ _ ?_
     clear hK K
     refine x_call rfl rfl rfl (Exc.grows _ _) (hw15) 51 (fun K hK=>?_);apply Exists.intro;refine ⟨fun w' hw'=>?_,fun wc hwc hbwc=>?_⟩;(focus go_simp;rfl);refine (lbGood_any _ _ _ (hat15.keep hbwc) hlen hokd).mono ?_;rintro e w16 ⟨rfl,hb16⟩;refine ⟨_,rfl,hb16,fun hx=>?_⟩;go_simp;apply hK;clear hK K
     refine x_nil ?_
     have hB16:=upW hx
     have s16:=sW.keep hB16 hbr
     have l16:=hst.cur' s16.ex hbz s16.cur
     have p0:=cell_keep hB16 q0
     have p1:=cell_keep hB16 q1
     have p2:=cell_keep hB16 q2
     have p3:=cell_keep hB16 q3
     have zp:=cell_lt p0
     clear q0 q1 q2 q3 hat15 hrow15 hg15 hw15 hl15 hw14 hb14 hap hw13 hb13 hbo13 hN13 hn13 hrow' hrow hb12 hb12' hx hb16 hwc hbwc
     cases hg2:good (xs.map Prod.fst ++ [(⟨nm,i,o,nb⟩:Df)])
     ·go_wp2_with fail
      go_roundw
      case rel=>exact ⟨k - 1,j+1,xs,by go_num,by omega,by omega,by omega,l16.mono (by omega)⟩
      case measure=>simp [intOf];omega
     ·have hap16:=dfs_apart hst.row s16.own (Nat.le_refl _)
      have hB1:w.heap.size+1≤wr.heap.size:=by have:=cell_lt (hst.nm 0 (by decide));omega
      go_wp2_with (at_builtin;go_must (refine def_append rfl (.tmp 58) (.tmp 60) rfl (w.heap.size+1) (.slice la xs.length lc) xs ⟨nm,i,o,nb⟩ (.slice ab nb.length cb) w16.heap.size rfl rfl rfl l16.row (NdsOwn.mono hB1 s16.own) hap16 ?e1 ?e2 ?_;(case e1=>(have:=s16.ex.size;omega));(case e2=>omega);intro v' w' h1 h2 h3;have hst':=LbSt.app (m:=m+2+1900 * j+1800) l16 hbz h1 h2 hg2 hok6))
      go_roundw
      case rel=>exact ⟨k - 1,j+1,_,by go_num,by omega,by omega,by simp;omega,hst'.mono (by omega)⟩
      case measure=>simp [intOf];omega
  ·go_wp2_with fail
   go_ret
   exact ⟨_,xs,rfl,hst.row,hst.gd,by omega,hst.ok,hst.cur.mono (by omega),hst.ex⟩
end Go.Proofs.YtikgblkfmpecfaaGreatDoor

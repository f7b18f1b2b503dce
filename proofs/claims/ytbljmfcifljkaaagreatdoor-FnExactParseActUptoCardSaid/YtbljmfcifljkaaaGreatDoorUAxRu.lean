/-
  The reference's axRules. Own work.
-/
import Derived.Test.YtbljmfcifljkaaaGreatDoorUAxPl
import Derived.Test.YtbljmfcifljkaaaGreatDoorUAxX
set_option linter.all false
set_option maxRecDepth 100000
set_option maxHeartbeats 8000000
namespace Go.Proofs.YtbljmfcifljkaaaGreatDoor
open Go.RowKit
set_option maxRecDepth 100000
set_option maxHeartbeats 40000000
theorem put_ne {A:Act} {d s:Nat} {v x:Value} (h:A.tmps[s]?.getD undef=x) (hne:d ≠ s):(A.put (some d) v).tmps[s]?.getD undef=x:=by
 simp only [Act.put]
 rw [Array.getElem?_setIfInBounds_ne hne]
 exact h
theorem put_eq {A:Act} {d n:Nat} {v:Value} (hn:A.tmps.size=n) (hd:d<n):(A.put (some d) v).tmps[d]?.getD undef=v:=by
 simp [Act.put,hn,hd]
theorem put_size {A:Act} {d n:Nat} {v:Value} (hn:A.tmps.size=n):(A.put (some d) v).tmps.size=n:=by simp [Act.put,hn]
theorem put_def {A:Act} {d:Nat} {v:Value} (hn:A.defers=[]):(A.put (some d) v).defers=[]:=by simp [Act.put,hn]
theorem put_ne' {A A2:Act} {d s:Nat} {v x:Value} (hA:A.put (some d) v=A2) (h:A.tmps[s]?.getD undef=x) (hne:d ≠ s):A2.tmps[s]?.getD undef=x:=by
 subst hA;exact put_ne h hne
theorem get_of {A:Act} {n s:Nat} {v:Value} (h:A.tmps[s]?.getD undef=v) (hn:A.tmps.size=n) (hs:s<n):A.tmps[s]'(by omega)=v:=by
 rw [Array.getElem?_eq_getElem (by omega)] at h
 exact h
theorem put2 {A A7:Act} {d1 d2 s:Nat} {v1 v2 x:Value} (hA:({ tmps:=(A.tmps.setIfInBounds d1 v1).setIfInBounds d2 v2,defers:=[] }:Act)=A7) (h:A.tmps[s]?.getD undef=x) (h1:d1 ≠ s) (h2:d2 ≠ s):A7.tmps[s]?.getD undef=x:=by
 subst hA
 show ((A.tmps.setIfInBounds d1 v1).setIfInBounds d2 v2)[s]?.getD undef=x
 rw [Array.getElem?_setIfInBounds_ne h2,Array.getElem?_setIfInBounds_ne h1]
 exact h
theorem put2_size {A A7:Act} {d1 d2 n:Nat} {v1 v2:Value} (hA:({ tmps:=(A.tmps.setIfInBounds d1 v1).setIfInBounds d2 v2,defers:=[] }:Act)=A7) (h:A.tmps.size=n):A7.tmps.size=n∧A7.defers=[]:=by
 subst hA
 simp [h]
structure BoxT (T:Nat → Prop) (w:World) (B b:Nat) (t:Tr):Prop where
 off:¬ T b
 at':∃ a n c,w.cell? ⟨b,0,none⟩=some (.slice a n c)∧NdsOwn w B (.slice a n c) t.nodes
theorem BoxT.sv {T:Nat → Prop} {w w1:World} {B b:Nat} {t:Tr} {a:Act} {s:Nat} (h:BoxT T w B b t) (he:a.tmps[s]?.getD undef=.pointer (some ⟨b,0,none⟩)):SvOk T w w1 B (.box t) (a.eval (.tmp s)):=by
 obtain ⟨h1,x,n,c,h2,h3⟩:=h
 exact ⟨b,x,n,c,(ev_tmp a s).trans he,h1,h2,h3⟩
theorem BoxT.of {T:Nat → Prop} {w w1:World} {B:Nat} {t:Tr} {a:Act} {s:Nat} (h:SvOk T w w1 B (.box t) (a.eval (.tmp s))):∃ b,a.tmps[s]?.getD undef=.pointer (some ⟨b,0,none⟩)∧BoxT T w B b t:=by
 obtain ⟨b,x,n,c,h0,h1,h2,h3⟩:=h
 exact ⟨b,(ev_tmp a s).symm.trans h0,h1,x,n,c,h2,h3⟩
theorem BoxT.exc {T:Nat → Prop} {w w':World} {B b:Nat} {t:Tr} (hE:Exc T w w') (hN:∀ (v:Value) ns,NdsOwn w B v ns → ∀ j,v.ownBlock=some j → ¬ T j) (h:BoxT T w B b t):BoxT T w' B b t:=by
 obtain ⟨h1,x,n,c,h2,h3⟩:=h
 exact ⟨h1,x,n,c,(hE.cell.1 b 0 (cell_lt h2) h1).trans h2,owns_exc hE h3 (hN _ _ h3)⟩
theorem BoxT.keep {T:Nat → Prop} {w w':World} {B b:Nat} {t:Tr} (hb:Below w.heap.size w w') (h:BoxT T w B b t):BoxT T w' B b t:=by
 obtain ⟨h1,x,n,c,h2,h3⟩:=h
 exact ⟨h1,x,n,c,cell_keep hb h2,h3.keep hb⟩
theorem BoxT.other {T T':Nat → Prop} {w:World} {B b:Nat} {t:Tr} (h:BoxT T w B b t) (hT:∀ j,j<w.heap.size → ¬ T j → ¬ T' j):BoxT T' w B b t:=by
 obtain ⟨h1,x,n,c,h2,h3⟩:=h
 exact ⟨hT b (cell_lt h2) h1,x,n,c,h2,h3⟩
theorem owns_blk_ne {w:World} {B e sz b:Nat} {v:Value} {n:Nat} {xs:List Value} {cs:Array Value} {t:TypeId} (h:w.ownsRow B e sz v n xs) (hb:w.heap[b]?=some (.cells cs t)) (he:e ≠ t):v.ownBlock ≠ some b:=by
 intro hk
 rcases h.2 with ⟨rfl,_⟩|⟨g,cap,cur,rfl,_,hgg,_⟩
 ·simp [Value.ownBlock] at hk
 ·simp [Value.ownBlock] at hk
  subst hk
  rw [hgg] at hb
  simp at hb
  exact he hb.2
theorem RuS.set {w:World} {B b:Nat} {v:Value} {xs:List RuV} {cs:Array Value} (h:RuS w B v xs) (hb:w.heap[b]?=some (.cells cs 30)) (u:Value):RuS (w.setCell ⟨b,0,none⟩ u) B v xs :=
 ⟨owns_other h.1 _ _ (owns_blk_ne h.1 hb (by decide)),fun x hx=>⟨owns_other (h.2 x hx).1 _ _ (owns_blk_ne (h.2 x hx).1 hb (by decide)),owns_other (h.2 x hx).2 _ _ (owns_blk_ne (h.2 x hx).2 hb (by decide))⟩⟩
theorem BoxT.set {T:Nat → Prop} {w:World} {B b b':Nat} {t:Tr} {cs:Array Value} (h:BoxT T w B b t) (hb:w.heap[b']?=some (.cells cs 30)) (hne:b ≠ b') (u:Value):BoxT T (w.setCell ⟨b',0,none⟩ u) B b t:=by
 obtain ⟨h1,x,n,c,h2,h3⟩:=h
 exact ⟨h1,x,n,c,(World.cell?_setCell_other _ ⟨b',0,none⟩ ⟨b,0,none⟩ _ (by simp <;> omega)).trans h2,owns_other h3 _ _ (owns_blk_ne h3 hb (by decide))⟩
theorem RuS.exc {w w':World} {B B':Nat} {T:Nat → Prop} {v u:Value} {xs ys:List RuV} (h:RuS w B u xs) (hv:RuS w B' v ys) (hE:Exc T w w') (hT:∀ j,T j → v.ownBlock=some j) (hne:∀ k,u.ownBlock=some k → v.ownBlock ≠ some k):RuS w' B u xs:=by
 have ne:∀ (t:Value) ns,NdsOwn w B t ns → ∀ k,t.ownBlock=some k → ¬ T k:=fun t ns ht k hk hTk=>owns_ne ht hv.1 (by decide) k hk (hT k hTk)
 exact ⟨owns_exc hE h.1 fun k hk hTk=>hne k hk (hT k hTk),fun x hx=>⟨owns_exc hE (h.2 x hx).1 (ne _ _ (h.2 x hx).1),owns_exc hE (h.2 x hx).2 (ne _ _ (h.2 x hx).2)⟩⟩
structure RlSt (w0 wr:World) (v:Value) (P:List Rul) (A:List (ByteArray × Tr × Tr)) (i:Nat) (ys:List RuV):Prop where
 row:RuS wr w0.heap.size v ys
 fst:ys.map Prod.fst=P ++ (A.take i).map mirOf
 bel:Below w0.heap.size w0 wr
theorem axRules_any (p k l:Int) (w:World) (hp:2≤p∧p≤97) (hkk:0≤k∧k<p) (hl:0≤l∧l<p) :
  Calls Tryz.prog 37 #[.int .i64 p,.int .i64 k,.int .i64 l] w (RusSP (axL p k l) w):=by
 have hpl:=fun w1:World=>axPlain_any p k l _ _ w1 hp hkk hl rfl rfl
 have hm1:=Int.emod_nonneg (k * l) (show p ≠ 0 by omega)
 have hm2:=Int.emod_lt_of_pos (k * l) (show 0<p by omega)
 have hs1:=Int.emod_nonneg (k+l) (show p ≠ 0 by omega)
 have hs2:=Int.emod_lt_of_pos (k+l) (show 0<p by omega)
 have hnum:AxNum k l ((k * l) % p) ((k+l) % p) (p - 1):=⟨by omega,by omega,by omega,by omega,by omega⟩
 have hAt:∀ j (h:j<(axT k l ((k * l) % p) ((k+l) % p) (p - 1)).length),AxTr ((axT k l ((k * l) % p) ((k+l) % p) (p - 1))[j]'h).2.1∧AxTr ((axT k l ((k * l) % p) ((k+l) % p) (p - 1))[j]'h).2.2∧((axT k l ((k * l) % p) ((k+l) % p) (p - 1))[j]'h).1.size≤60:=fun j h=>by
  have h2:=hnum.tr j h
  obtain ⟨hx1,hx2,hnm,_,_⟩:=ax_read hnum j h
  have h3:((axT k l ((k * l) % p) ((k+l) % p) (p - 1))[j]'h).1.size≤60:=by rw [← hnm];exact (axTxt_sizes j h).1
  exact ⟨h2.1,h2.2.1,h3⟩
 obtain ⟨M,hM⟩:∃ M,M=(k * l) % p:=⟨_,rfl⟩
 obtain ⟨S,hS⟩:∃ S,S=(k+l) % p:=⟨_,rfl⟩
 have hax:axL p k l=((axT k l M S (p - 1)).take 18).map rulOf ++ ((axT k l M S (p - 1)).take 18).map mirOf ++ (((axT k l M S (p - 1)).drop 18).take 7).map rulOf ++ (((axT k l M S (p - 1)).drop 24).take 1).map mirOf ++ (if k=0 then [] else ((axT k l M S (p - 1)).drop 25).map rulOf):=by
  rw [hM,hS];rfl
 have htr:∀ t ∈ trs (axT k l M S (p - 1)),AxTr t:=by
  rw [hM,hS]
  exact ax_tr hnum.hk hnum.hl hnum.hm hnum.hs hnum.hn
 rw [← hM,← hS] at hpl hAt
 obtain ⟨LL,hLL⟩:∃ LL,LL=axL p k l:=⟨_,rfl⟩
 rw [← hLL]
 have HLL:=Lib.hid (hLL.trans hax)
 have HTR:=Lib.hid htr
 have HNUM:=Lib.hid (And.intro hp (And.intro hkk hl))
 clear hm1 hm2 hs1 hs2 hnum hax htr hM hS hLL
 obtain ⟨A,hA⟩:∃ A,A=axT k l M S (p - 1):=⟨_,rfl⟩
 have hAl:A.length=27:=by rw [hA];rfl
 rw [← hA] at hpl hAt HLL
 have HP:=Lib.hid hpl
 have HAT:=Lib.hid hAt
 have HA:=Lib.hid hA
 have HAL:=Lib.hid hAl
 clear hpl hAt hA hp hkk hl
 go_enter Tryz.func37,Tryz.ntmps37
 go_wp2_with fail
 refine (HP.out _).mono ?_
 rintro e w1 ⟨v1,xs1,rfl,hx1,hr1,hb1⟩
 go_wp2_with fail
 refine (HP.out _).mono ?_
 rintro e w2 ⟨v2,xs2,rfl,hx2,hr2,hb2⟩
 have hl1:xs1.length=18:=by have:=congrArg List.length hx1;rw [List.length_map,List.length_map,List.length_take,hAl] at this;exact this
 have hl2:xs2.length=18:=by have:=congrArg List.length hx2;rw [List.length_map,List.length_map,List.length_take,hAl] at this;exact this
 obtain ⟨a1,c1,rfl⟩:=hr1.shape
 obtain ⟨a2,c2,rfl⟩:=hr2.shape
 rw [hl1] at hr1 ⊢
 rw [hl2] at hr2 ⊢
 go_wp2_with fail
 have hsz1:=hb1.size
 have hsz2:=hb2.size
 obtain ⟨g2,c2',he2,hg18,-,hgb,hgz⟩:=owns_some' hr2.1 (by omega)
 simp only [Value.slice.injEq] at he2
 obtain ⟨rfl,-,rfl⟩:=he2
 have hst:RlSt w w2 (.slice a1 18 c1) ((A.take 18).map rulOf) A 0 xs1:=⟨hr1.keep hb2,by rw [hx1];simp,hb1.trans (hb2.mono hsz1)⟩
 have hof:∀ j,(Value.slice a1 18 c1).ownBlock=some j → j<w1.heap.size∨w2.heap.size≤j:=fun j hj=>.inl (World.ownsRow.lt hr1.1 j hj).2
 have HX2:=Lib.hid hx2
 have hg2:w1.heap.size≤g2∧g2<w2.heap.size:=⟨hgb,hgz⟩
 have HSZ:=Lib.hid (And.intro hsz1 (And.intro hsz2 (And.intro hg2 hl2)))
 clear hx1 hx2 hl1 hl2 hr1 hsz1 hsz2 hgb hgz hg2 hg18 hAl hb1 hb2
 go_loopw [7,25] (fun rv iv wr=>∃ (i:Nat) (ys:List RuV),i≤18∧iv=.int .i64 (i:Int)∧RlSt w wr rv ((A.take 18).map rulOf) A i ys∧RuS wr w1.heap.size (.slice (some ⟨g2,0,none⟩) 18 c2) xs2∧w2.heap.size≤wr.heap.size∧∀ j,rv.ownBlock=some j → j<w1.heap.size∨w2.heap.size≤j) (fun _ iv _=>18 - (intOf iv).toNat)
 case atStart=>exact ⟨0,_,by omega,rfl,hst,hr2,Nat.le_refl _,hof⟩
 case round =>
  clear hst hof hr2
  obtain ⟨i,ys,hi,rfl,hst,hrw,hwz,hof⟩:=hrel
  have hyl:ys.length=18+i:=by
   have:=congrArg List.length hst.fst
   simp only [List.length_map,List.length_append,List.length_take,HAL.out] at this
   omega
  obtain ⟨ar,cr,rfl⟩:=hst.row.shape
  rw [hyl] at hst hof ⊢
  by_cases hlt:i<18
  ·have i1:(i:Int)<18:=by omega
   have i2:IntKind.i64.wrap ((i:Int)+1)=(i:Int)+1:=IntWalk.i64_in _ (by omega)
   have hiA:i<A.length:=by rw [HAL.out];omega
   have hi2:i<xs2.length:=by rw [HSZ.out.2.2.2];exact hlt
   obtain ⟨T0,hT0⟩:∃ T0,A[i]=T0:=⟨_,rfl⟩
   obtain ⟨x,hxx⟩:∃ x,xs2[i]=x:=⟨_,rfl⟩
   have hx1:x.1=rulOf T0:=by
    have:=congrArg (fun L=>L[i]?) HX2.out
    simp only [List.getElem?_map,List.getElem?_eq_getElem hi2,Option.map_some,List.getElem?_take,if_pos hlt,List.getElem?_eq_getElem hiA,Option.some.injEq] at this
    rw [← hxx,← hT0];exact this
   obtain ⟨t1,t2,t3⟩:=HAT.out i hiA
   have hAt1:(A.take (i+1)).map mirOf=(A.take i).map mirOf ++ [mirOf T0]:=by rw [take_snoc A i hiA,List.map_append,hT0];rfl
   rw [hT0] at t1 t2 t3
   have h18:wr.ownsRow w1.heap.size 32 3 (.slice (some ⟨g2,0,none⟩) 18 c2) 18 (xs2.flatMap ruCells):=by have:=hrw.1;rw [HSZ.out.2.2.2] at this;exact this
   obtain ⟨n0,n1,n2,-,-,-⟩:=ru_old h18 i hi2
   obtain ⟨hvl,hvr⟩:=hrw.2 _ (List.getElem_mem hi2)
   rw [hxx] at n0 n1 n2 hvl hvr
   obtain ⟨nm,tl,tr⟩:=T0
   obtain ⟨⟨xn,xl,xr⟩,vl,vr⟩:=x
   simp only [rulOf,Rul.mk.injEq] at hx1
   obtain ⟨rfl,rfl,rfl⟩:=hx1
   simp only at n0 n1 n2 hvl hvr t1 t2 t3
   obtain ⟨al,cl,rfl⟩:=hvl.slice
   obtain ⟨ac,cc,rfl⟩:=hvr.slice
   have bz:=cell_lt n0
   have hsz:¬ 9223372036854775807<1+xn.size:=by omega
   have HST:=Lib.hid hst
   have HRW:=Lib.hid hrw
   have HT:=Lib.hid (And.intro t1 (And.intro t2 hAt1))
   have HOF:=Lib.hid hof
   have HWZ:=Lib.hid hwz
   have HYL:=Lib.hid hyl
   clear hst hrw t1 t2 t3 hAt1 hT0 hxx h18 hof hwz hyl
   go_wp2_with fail
   have hB1:=alloc_below wr (.cells #[.string xn,.slice al tl.nodes.length cl,.slice ac tr.nodes.length cc] 32)
   have k0:(wr.alloc (.cells #[.string xn,.slice al tl.nodes.length cl,.slice ac tr.nodes.length cc] 32)).cell? ⟨wr.heap.size,0,none⟩=some (.string xn):=by simp [go_sem]
   have k1:(wr.alloc (.cells #[.string xn,.slice al tl.nodes.length cl,.slice ac tr.nodes.length cc] 32)).cell? ⟨wr.heap.size,1,none⟩=some (.slice al tl.nodes.length cl):=by simp [go_sem]
   have k2:(wr.alloc (.cells #[.string xn,.slice al tl.nodes.length cl,.slice ac tr.nodes.length cc] 32)).cell? ⟨wr.heap.size,2,none⟩=some (.slice ac tr.nodes.length cc):=by simp [go_sem]
   have hrowW:=HST.out.row.keep hB1
   have hrwW:=HRW.out.keep hB1
   have hbW:=HST.out.bel.trans (hB1.mono HST.out.bel.size)
   replace hvl:=hvl.keep hB1
   replace hvr:=hvr.keep hB1
   obtain ⟨W,hW⟩:∃ W,W=wr.alloc (.cells #[.string xn,.slice al tl.nodes.length cl,.slice ac tr.nodes.length cc] 32):=⟨_,rfl⟩
   have hWs:W.heap.size=wr.heap.size+1:=by rw [hW];simp
   have zW:wr.heap.size<W.heap.size:=by omega
   rw [← hW] at k0 k1 k2 hrowW hrwW hbW hvl hvr ⊢
   clear hW hB1 n0 n1 n2 bz
   have hoff:∀ k,(Value.slice ar (18+i) cr).ownBlock=some k → k<wr.heap.size∧w.heap.size≤k:=fun k hk=>by have:=World.ownsRow.lt HST.out.row.1 k hk;exact ⟨this.2,this.1⟩
   have hTw:¬ (Value.slice ar (18+i) cr).ownBlock=some wr.heap.size:=fun e=>by have:=(hoff _ e).1;omega
   obtain ⟨T,hTT⟩:∃ T:Nat → Prop,T=fun j=>(Value.slice ar (18+i) cr).ownBlock=some j:=⟨_,rfl⟩
   have hTn:¬ T wr.heap.size:=by rw [hTT];exact hTw
   have hTi:∀ k,(Value.slice ar (18+i) cr).ownBlock=some k → T k:=by rw [hTT];exact fun k hk=>hk
   have hTo:∀ k,T k → (Value.slice ar (18+i) cr).ownBlock=some k:=by rw [hTT];exact fun k hk=>hk
   have hTl:∀ j,T j → w.heap.size≤j:=fun j hj=>(hoff j (hTo j hj)).2
   have hTm:∀ (v:Value) (ns:List Nd),NdsOwn W w1.heap.size v ns → ∀ j,v.ownBlock=some j → ¬ T j:=fun v ns hv j hj hTj=>owns_ne hv hrowW.1 (by decide) j hj (hTo j hTj)
   have hne1:=hTm _ _ hvl
   have hne2:=hTm _ _ hvr
   replace hvl:NdsOwn W.drew w1.heap.size _ _:=hvl.keep (Below.refl _ _).drew
   replace hvr:NdsOwn W.drew w1.heap.size _ _:=hvr.keep (Below.refl _ _).drew
   clear hTT hTw hTm
   have up:∀ {w':World},Exc T W.drew w' → Below w.heap.size w w':=fun h=>hbW.drew.trans (h.low hTl (by have:=hbW.size;simpa using this))
   refine region_acts4 (C:=Exc T _) 1 (List.range 14) (by kernel_rfl) (by kernel_rfl) (Exc.grows _ _) (Exc.refl _ _) ?_
   iterate 6 (apply x_sT rfl rfl rfl;(focus intro u hc' hf';(try simp only [World.size_drew] at hc' hf');go_simp <;> rfl);intro K hK;go_simp;apply hK;clear hK K)
   refine x_call rfl rfl rfl (Exc.grows _ _) (Exc.refl _ _) 82 (fun K hK=>?_);apply Exists.intro;refine ⟨fun w' hw'=>?_,fun wa hwa hbwa=>?_⟩;(focus go_simp;rfl);refine (tmMirrorT tl HT.out.1 _ _ (show NdsOwn _ _ _ _ from owns_exc hwa hvl hne1).at).mono ?_;rintro e u1 ⟨v1,rfl,ho1,hb1⟩;refine ⟨_,rfl,hb1,fun hx=>?_⟩;go_simp;apply hK;clear hK K
   obtain ⟨p1,q1,rfl⟩:=ho1.slice
   iterate 2 (apply x_sT rfl rfl rfl;(focus intro u hc' hf';(try simp only [World.size_drew] at hc' hf');go_simp <;> rfl);intro K hK;go_simp;apply hK;clear hK K)
   refine x_call rfl rfl rfl (Exc.grows _ _) (hx) 82 (fun K hK=>?_);apply Exists.intro;refine ⟨fun w' hw'=>?_,fun wb hwb hbwb=>?_⟩;(focus go_simp;rfl);refine (tmMirrorT tr HT.out.2.1 _ _ (show NdsOwn _ _ _ _ from owns_exc hwb hvr hne2).at).mono ?_;rintro e u2 ⟨v2,rfl,ho2,hb2⟩;refine ⟨_,rfl,hb2,fun hx=>?_⟩;go_simp;apply hK;clear hK K
   obtain ⟨p2,q2,rfl⟩:=ho2.slice
   refine x_call rfl rfl rfl (Exc.grows _ _) (hx) 38 (fun K hK=>?_);apply Exists.intro;refine ⟨fun w' hw'=>?_,fun wc hwc hbwc=>?_⟩;(focus go_simp;rfl);refine (axRule_any _ _ _ _ _ _ _ _).mono ?_;rintro e u3 ⟨rfl,hb3⟩;refine ⟨_,rfl,hb3,fun hx=>?_⟩;go_simp;apply hK;clear hK K
   refine x_make rfl rfl rfl (Exc.grows _ _) (hx) (fun b=>.slice (some ⟨b,0,none⟩) 1 1) (fun K hK=>?_)
   apply Exists.intro
   refine ⟨fun w' hw'=>?_,fun b4 u4 hw4 hb4 hbo4 hN4 hn4=>?_⟩
   ·obtain ⟨hc',hf'⟩:=hw'.cell
    try simp only [World.size_drew] at hc' hf'
    go_simp
    rfl
   go_simp
   refine hK _ _ _ ?_
   clear hK K
   have g1:=hbwa.size
   have g2':=hb1.size
   have g3:=hbwb.size
   have g4:=hb2.size
   have g5:=hbwc.size
   have g6:=hb3.size
   have g7:=hb4.size
   have g0:=hbW.size
   simp only [World.size_drew] at g1
   have ho1':NdsOwn u4 w.heap.size (.slice p1 tl.mir.nodes.length q1) tl.mir.nodes:=((((((ho1.keep hbwb).keep hb2).keep hbwc).keep hb3).keep hb4)).mono (by omega)
   have ho2':NdsOwn u4 w.heap.size (.slice p2 tr.mir.nodes.length q2) tr.mir.nodes:=((((ho2.keep hbwc).keep hb3).keep hb4)).mono (by omega)
   have hbW4:Below W.heap.size W u4:=((((((((Below.refl _ W).drew.trans (hbwa.mono (by simp))).trans (hb1.mono (by omega))).trans (hbwb.mono (by omega))).trans (hb2.mono (by omega))).trans (hbwc.mono (by omega))).trans (hb3.mono (by omega))).trans (hb4.mono (by omega)))
   have hrow4:=hrowW.keep hbW4
   have hys:RuAllO u4 w.heap.size [(mirOf (xn,tl,tr),.slice p1 tl.mir.nodes.length q1,.slice p2 tr.mir.nodes.length q2)]:=(RuAllO.nil _ _).snoc ho1' ho2'
   refine x_ruapp rfl rfl rfl hw4 (.tmp 29) (.tmp 40) rfl w.heap.size (.slice ar (18+i) cr) ys _ b4 1 1 rfl rfl rfl (fun k hk=>.inl ⟨by have:=(hoff k hk).1;simp;omega,hTi k hk⟩) (by omega) (by have:=HYL.out;omega) hrow4 hys hbo4 ?_
   intro K hK w5 w6 v6 hw5 hb5 hrow6 hg6 hw6 hv6
   have hsz5:=hb5.size
   have hst6:RlSt w w6 v6 ((A.take 18).map rulOf) A (i+1) (ys ++ [(mirOf (xn,tl,tr),.slice p1 tl.mir.nodes.length q1,.slice p2 tr.mir.nodes.length q2)]):=by
    refine ⟨hrow6,?_,up hw6⟩
    rw [List.map_append,HST.out.fst,HT.out.2.2,List.append_assoc]
    rfl
   have hrw6:RuS w6 w1.heap.size (.slice (some ⟨g2,0,none⟩) 18 c2) xs2:=(hrwW.keep (Below.refl _ _).drew).exc (hrowW.keep (Below.refl _ _).drew) hw6 hTo (fun k hk e=>by
    simp only [Value.ownBlock,Option.map_some,Option.some.injEq] at hk
    subst hk
    rcases HOF.out _ e with h|h
    ·have:=HSZ.out;omega
    ·have:=HSZ.out;omega)
   have hof6:∀ j,v6.ownBlock=some j → j<w1.heap.size∨w2.heap.size≤j:=fun j hj=>by
    rcases hv6 with e|e
    ·exact HOF.out j (e ▸ hj)
    ·rw [e] at hj
     obtain rfl:=Option.some.inj hj
     have:=HWZ.out
     exact .inr (by omega)
   have hwz6:w2.heap.size≤w6.heap.size:=by have h1:=hw6.size;have h2:=HWZ.out;simp only [World.size_drew] at h1;omega
   go_simp
   refine hK _ _ _ ?_
   clear hK K
   iterate 1 (apply x_sT rfl rfl rfl;(focus intro u hc' hf';(try simp only [World.size_drew] at hc' hf');go_simp <;> rfl);intro K hK;go_simp;apply hK;clear hK K)
   refine x_nil ?_
   clear hbwa hb1 hbwb hb2 hbwc hb3 hb4 hw4 hbo4 hN4 hn4 hb5 hw5 ho1 ho2 ho1' ho2' hys hrow4 hbW4
   go_wp2_with fail
   refine ⟨⟨i+1,_,by omega,by push_cast;rfl,hst6,hrw6,hwz6,hof6⟩,?_⟩
   simp [intOf];omega
  ·obtain rfl:i=18:=by omega
   have i1:¬ ((18:Nat):Int)<18:=by omega
   have hrow:=hst.row
   have hB:=hst.bel
   obtain ⟨L36,hL36⟩:∃ L,L=(A.take 18).map rulOf ++ (A.take 18).map mirOf:=⟨_,rfl⟩
   have hfst:ys.map Prod.fst=L36:=by rw [hL36];exact hst.fst
   have HF:=Lib.hid (And.intro hfst (And.intro hL36 hyl))
   obtain ⟨N0,hN0⟩:∃ N0,N0=wr.heap.size:=⟨_,rfl⟩
   have hz:N0≤wr.heap.size:=by omega
   have hoff:∀ j,(Value.slice ar 36 cr).ownBlock=some j → j<N0:=fun j hj=>by rw [hN0];exact (World.ownsRow.lt hst.row.1 j hj).2
   clear hN0
   rw [show 18+18=36 from rfl] at *
   clear hst hof hrw hwz hfst hL36 hyl
   go_wp2_with fail
   refine (axOneT 3 _).mono ?_
   rintro e u1 ⟨v,rfl,ho,hk⟩
   obtain ⟨p1,q1,rfl⟩:=ho.slice
   have m1:=ho.mono (B':=w.heap.size) (by have:=hB.size;first|omega|(simp;omega))
   replace hrow:=hrow.keep hk
   replace hB:=hB.trans (hk.mono hB.size)
   replace hz:=Nat.le_trans hz hk.size
   clear ho hk
   go_wp2_with fail
   refine (axOneT 9 _).mono ?_
   rintro e u2 ⟨v,rfl,ho,hk⟩
   obtain ⟨p2,q2,rfl⟩:=ho.slice
   have m2:=ho.mono (B':=w.heap.size) (by have:=hB.size;first|omega|(simp;omega))
   replace hrow:=hrow.keep hk
   replace hB:=hB.trans (hk.mono hB.size)
   replace hz:=Nat.le_trans hz hk.size
   replace m1:=m1.keep hk
   clear ho hk
   go_wp2_with fail
   refine (axOneT 5 _).mono ?_
   rintro e u3 ⟨v,rfl,ho,hk⟩
   obtain ⟨p3,q3,rfl⟩:=ho.slice
   have m3:=ho.mono (B':=w.heap.size) (by have:=hB.size;first|omega|(simp;omega))
   replace hrow:=hrow.keep hk
   replace hB:=hB.trans (hk.mono hB.size)
   replace hz:=Nat.le_trans hz hk.size
   replace m1:=m1.keep hk
   replace m2:=m2.keep hk
   clear ho hk
   go_wp2_with fail
   refine (axOneT 11 _).mono ?_
   rintro e u4 ⟨v,rfl,ho,hk⟩
   obtain ⟨p4,q4,rfl⟩:=ho.slice
   have m4:=ho.mono (B':=w.heap.size) (by have:=hB.size;first|omega|(simp;omega))
   replace hrow:=hrow.keep hk
   replace hB:=hB.trans (hk.mono hB.size)
   replace hz:=Nat.le_trans hz hk.size
   replace m1:=m1.keep hk
   replace m2:=m2.keep hk
   replace m3:=m3.keep hk
   clear ho hk
   go_wp2_with fail
   have hk:Below u4.heap.size u4 ((((u4.alloc (.cells #[.slice p1 (lf 3 0).nodes.length q1] 30)).alloc (.cells #[.slice p2 (lf 9 0).nodes.length q2] 30)).alloc (.cells #[.slice p3 (lf 5 0).nodes.length q3] 30)).alloc (.cells #[.slice p4 (lf 11 0).nodes.length q4] 30)):=(((alloc_below _ _).alloc (by simp) _).alloc (by simp;omega) _).alloc (by simp;omega) _
   have c1:((((u4.alloc (.cells #[.slice p1 (lf 3 0).nodes.length q1] 30)).alloc (.cells #[.slice p2 (lf 9 0).nodes.length q2] 30)).alloc (.cells #[.slice p3 (lf 5 0).nodes.length q3] 30)).alloc (.cells #[.slice p4 (lf 11 0).nodes.length q4] 30)).cell? ⟨u4.heap.size,0,none⟩=some (.slice p1 (lf 3 0).nodes.length q1):=by go_simp
   have z1:u4.heap.size<((((u4.alloc (.cells #[.slice p1 (lf 3 0).nodes.length q1] 30)).alloc (.cells #[.slice p2 (lf 9 0).nodes.length q2] 30)).alloc (.cells #[.slice p3 (lf 5 0).nodes.length q3] 30)).alloc (.cells #[.slice p4 (lf 11 0).nodes.length q4] 30)).heap.size:=by simp;try omega
   have y1:N0≤u4.heap.size:=by omega
   have c2:((((u4.alloc (.cells #[.slice p1 (lf 3 0).nodes.length q1] 30)).alloc (.cells #[.slice p2 (lf 9 0).nodes.length q2] 30)).alloc (.cells #[.slice p3 (lf 5 0).nodes.length q3] 30)).alloc (.cells #[.slice p4 (lf 11 0).nodes.length q4] 30)).cell? ⟨u4.heap.size+1,0,none⟩=some (.slice p2 (lf 9 0).nodes.length q2):=by go_simp
   have z2:u4.heap.size+1<((((u4.alloc (.cells #[.slice p1 (lf 3 0).nodes.length q1] 30)).alloc (.cells #[.slice p2 (lf 9 0).nodes.length q2] 30)).alloc (.cells #[.slice p3 (lf 5 0).nodes.length q3] 30)).alloc (.cells #[.slice p4 (lf 11 0).nodes.length q4] 30)).heap.size:=by simp;try omega
   have y2:N0≤u4.heap.size+1:=by omega
   have c3:((((u4.alloc (.cells #[.slice p1 (lf 3 0).nodes.length q1] 30)).alloc (.cells #[.slice p2 (lf 9 0).nodes.length q2] 30)).alloc (.cells #[.slice p3 (lf 5 0).nodes.length q3] 30)).alloc (.cells #[.slice p4 (lf 11 0).nodes.length q4] 30)).cell? ⟨u4.heap.size+1+1,0,none⟩=some (.slice p3 (lf 5 0).nodes.length q3):=by go_simp
   have z3:u4.heap.size+1+1<((((u4.alloc (.cells #[.slice p1 (lf 3 0).nodes.length q1] 30)).alloc (.cells #[.slice p2 (lf 9 0).nodes.length q2] 30)).alloc (.cells #[.slice p3 (lf 5 0).nodes.length q3] 30)).alloc (.cells #[.slice p4 (lf 11 0).nodes.length q4] 30)).heap.size:=by simp;try omega
   have y3:N0≤u4.heap.size+1+1:=by omega
   have c4:((((u4.alloc (.cells #[.slice p1 (lf 3 0).nodes.length q1] 30)).alloc (.cells #[.slice p2 (lf 9 0).nodes.length q2] 30)).alloc (.cells #[.slice p3 (lf 5 0).nodes.length q3] 30)).alloc (.cells #[.slice p4 (lf 11 0).nodes.length q4] 30)).cell? ⟨u4.heap.size+1+1+1,0,none⟩=some (.slice p4 (lf 11 0).nodes.length q4):=by go_simp
   have z4:u4.heap.size+1+1+1<((((u4.alloc (.cells #[.slice p1 (lf 3 0).nodes.length q1] 30)).alloc (.cells #[.slice p2 (lf 9 0).nodes.length q2] 30)).alloc (.cells #[.slice p3 (lf 5 0).nodes.length q3] 30)).alloc (.cells #[.slice p4 (lf 11 0).nodes.length q4] 30)).heap.size:=by simp;try omega
   have y4:N0≤u4.heap.size+1+1+1:=by omega
   replace m1:=m1.keep hk
   replace m2:=m2.keep hk
   replace m3:=m3.keep hk
   replace m4:=m4.keep hk
   replace hrow:=hrow.keep hk
   replace hB:=hB.trans (hk.mono hB.size)
   replace hz:=Nat.le_trans hz hk.size
   clear hk
   generalize ((((u4.alloc (.cells #[.slice p1 (lf 3 0).nodes.length q1] 30)).alloc (.cells #[.slice p2 (lf 9 0).nodes.length q2] 30)).alloc (.cells #[.slice p3 (lf 5 0).nodes.length q3] 30)).alloc (.cells #[.slice p4 (lf 11 0).nodes.length q4] 30))=u5 at *
   generalize u4.heap.size+1+1+1=b4 at *
   generalize u4.heap.size+1+1=b3 at *
   generalize u4.heap.size+1=b2 at *
   generalize u4.heap.size=b1 at *
   go_wp2_with fail
   refine (tmIdT 1 _).mono ?_
   rintro e u6 ⟨v,rfl,ho,hk⟩
   obtain ⟨p5,q5,rfl⟩:=ho.slice
   have m5:=ho.mono (B':=w.heap.size) (by have:=hB.size;omega)
   replace hrow:=hrow.keep hk
   replace hB:=hB.trans (hk.mono hB.size)
   replace hz:=Nat.le_trans hz hk.size
   replace m1:=m1.keep hk
   replace c1:=cell_keep hk c1
   replace z1:=cell_lt c1
   replace m2:=m2.keep hk
   replace c2:=cell_keep hk c2
   replace z2:=cell_lt c2
   replace m3:=m3.keep hk
   replace c3:=cell_keep hk c3
   replace z3:=cell_lt c3
   replace m4:=m4.keep hk
   replace c4:=cell_keep hk c4
   replace z4:=cell_lt c4
   clear ho hk
   go_wp2_with fail
   have hk:Below u6.heap.size u6 (u6.alloc (.cells #[.slice p5 (lf 1 1).nodes.length q5] 30)):=alloc_below _ _
   have c5:(u6.alloc (.cells #[.slice p5 (lf 1 1).nodes.length q5] 30)).cell? ⟨u6.heap.size,0,none⟩=some (.slice p5 (lf 1 1).nodes.length q5):=by go_simp
   have y5:N0≤u6.heap.size:=by omega
   have z5:u6.heap.size<(u6.alloc (.cells #[.slice p5 (lf 1 1).nodes.length q5] 30)).heap.size:=by simp
   replace c1:=cell_keep hk c1
   replace z1:=cell_lt c1
   replace c2:=cell_keep hk c2
   replace z2:=cell_lt c2
   replace c3:=cell_keep hk c3
   replace z3:=cell_lt c3
   replace c4:=cell_keep hk c4
   replace z4:=cell_lt c4
   replace m1:=m1.keep hk
   replace m2:=m2.keep hk
   replace m3:=m3.keep hk
   replace m4:=m4.keep hk
   replace m5:=m5.keep hk
   replace hrow:=hrow.keep hk
   replace hB:=hB.trans (hk.mono hB.size)
   replace hz:=Nat.le_trans hz hk.size
   clear hk
   generalize (u6.alloc (.cells #[.slice p5 (lf 1 1).nodes.length q5] 30))=u7 at *
   generalize u6.heap.size=b5 at *
   have hTo:∀ j,(Value.slice ar 36 cr).ownBlock=some j → j<N0:=hoff
   obtain ⟨T,hTT⟩:∃ T:Nat → Prop,T=fun j=>(Value.slice ar 36 cr).ownBlock=some j:=⟨_,rfl⟩
   have hT1:∀ j,T j → (Value.slice ar 36 cr).ownBlock=some j:=by rw [hTT];exact fun k hk=>hk
   have hT2:∀ j,(Value.slice ar 36 cr).ownBlock=some j → T j:=by rw [hTT];exact fun k hk=>hk
   have hT3:∀ j,N0≤j → ¬ T j:=fun j hj hT=>by have:=hoff j (hT1 j hT);omega
   clear hTT
   have hk7:Below u7.heap.size u7 u7.drew:=(Below.refl _ _).drew
   have x1:BoxT T u7.drew w.heap.size b1 (lf 3 0):=⟨hT3 _ y1,_,_,_,c1,m1.keep hk7⟩
   have x2:BoxT T u7.drew w.heap.size b2 (lf 9 0):=⟨hT3 _ y2,_,_,_,c2,m2.keep hk7⟩
   have x3:BoxT T u7.drew w.heap.size b3 (lf 5 0):=⟨hT3 _ y3,_,_,_,c3,m3.keep hk7⟩
   have x4:BoxT T u7.drew w.heap.size b4 (lf 11 0):=⟨hT3 _ y4,_,_,_,c4,m4.keep hk7⟩
   have x5:BoxT T u7.drew w.heap.size b5 (lf 1 1):=⟨hT3 _ y5,_,_,_,c5,m5.keep hk7⟩
   have hz7:=hB.size
   replace hrow:=hrow.keep hk7
   replace hB:=hB.trans (hk7.mono hz7)
   clear hk7 c1 c2 c3 c4 c5 m1 m2 m3 m4 m5 y1 y2 y3 y4 y5 z1 z2 z3 z4 z5 hz hTo hoff
   refine region_acts4 (C:=Exc T _) 1 (List.range 12) (by kernel_rfl) (by kernel_rfl) (Exc.grows _ _) (Exc.refl _ _) ?_
   rw [show List.range 12=List.range 10 ++ [10,11] by rfl]
   refine sym_end (T:=T) (kf:=kfA 0 0) (B:=w.heap.size) (List.range 10) [(10,.box (lf 3 0)),(11,.box (lf 9 0)),(12,.box (lf 5 0)),(13,.box (lf 11 0)),(14,.box (lf 1 1)),(0,.val (.int .i64 p)),(1,.val (.int .i64 k)),(7,.val (.slice ar 36 cr))] [.sub p 1]
    [(57,.tm (.seq (.seq (.par (lf 1 1) (lf 7 (p - 1))) (lf 9 0)) (lf 4 0))),(10,.box (lf 3 0)),(11,.box (lf 9 0)),(12,.box (lf 5 0)),(13,.box (lf 11 0)),(14,.box (lf 1 1)),(0,.val (.int .i64 p)),(1,.val (.int .i64 k)),(7,.val (.slice ar 36 cr))] (by kernel_rfl) (by kernel_rfl) (by kernel_rfl) _ _ _ rfl ?hst (Exc.refl _ _) (Below.refl _ _) (by simpa using hz7) ?hob ?_
   case hst =>
    intro s x hx
    simp only [List.lookup] at hx
    repeat (split at hx;(rename_i hs;have hs:=eq_of_beq hs;subst hs;cases hx;first|rfl|exact x1.sv rfl|exact x2.sv rfl|exact x3.sv rfl|exact x4.sv rfl|exact x5.sv rfl))
    cases hx
   case hob =>
    intro t ht
    simp only [List.mem_cons,List.not_mem_nil,or_false] at ht
    subst ht
    show IntKind.i64.wrap (p - 1)=p - 1
    exact IntWalk.i64_in _ (by have:=HNUM.out;omega)
   intro A1 W1 bs1 hsz1 hdf1 hC1 hbW1 hall
   replace hsz1:A1.tmps.size=151:=hsz1
   replace hdf1:A1.defers=[]:=hdf1
   obtain ⟨ab,nb,cb,e57,g57⟩:=hall (57,.tm (.seq (.seq (.par (lf 1 1) (lf 7 (p - 1))) (lf 9 0)) (lf 4 0))) (List.mem_of_getElem? (i:=0) rfl)
   rw [ev_tmp] at e57
   change A1.tmps[57]?.getD undef=_ at e57
   have e0:A1.tmps[0]?.getD undef=.int .i64 p:=(ev_tmp _ _).symm.trans (hall (0,.val (.int .i64 p)) (List.mem_of_getElem? (i:=6) rfl))
   have e1:A1.tmps[1]?.getD undef=.int .i64 k:=(ev_tmp _ _).symm.trans (hall (1,.val (.int .i64 k)) (List.mem_of_getElem? (i:=7) rfl))
   have e7:A1.tmps[7]?.getD undef=.slice ar 36 cr:=(ev_tmp _ _).symm.trans (hall (7,.val (.slice ar 36 cr)) (List.mem_of_getElem? (i:=8) rfl))
   clear x1 x2 x3 x4 x5
   have hTl:∀ j,T j → j<u7.drew.heap.size:=fun j hj=>(World.ownsRow.lt hrow.1 j (hT1 j hj)).2
   obtain ⟨b1,e10,x1⟩:=BoxT.of (hall (10,.box (lf 3 0)) (List.mem_of_getElem? (i:=1) rfl))
   obtain ⟨b2,e11,x2⟩:=BoxT.of (hall (11,.box (lf 9 0)) (List.mem_of_getElem? (i:=2) rfl))
   obtain ⟨b3,e12,x3⟩:=BoxT.of (hall (12,.box (lf 5 0)) (List.mem_of_getElem? (i:=3) rfl))
   obtain ⟨b4,e13,x4⟩:=BoxT.of (hall (13,.box (lf 11 0)) (List.mem_of_getElem? (i:=4) rfl))
   obtain ⟨b5,e14,x5⟩:=BoxT.of (hall (14,.box (lf 1 1)) (List.mem_of_getElem? (i:=5) rfl))
   clear hall
   have l1:b1<u7.drew.heap.size:=by obtain ⟨_,_,_,_,h,_⟩:=x1;exact cell_lt h
   have l2:b2<u7.drew.heap.size:=by obtain ⟨_,_,_,_,h,_⟩:=x2;exact cell_lt h
   have l3:b3<u7.drew.heap.size:=by obtain ⟨_,_,_,_,h,_⟩:=x3;exact cell_lt h
   have l4:b4<u7.drew.heap.size:=by obtain ⟨_,_,_,_,h,_⟩:=x4;exact cell_lt h
   have l5:b5<u7.drew.heap.size:=by obtain ⟨_,_,_,_,h,_⟩:=x5;exact cell_lt h
   replace x1:=x1.keep hbW1
   replace x2:=x2.keep hbW1
   replace x3:=x3.keep hbW1
   replace x4:=x4.keep hbW1
   replace x5:=x5.keep hbW1
   replace hrow:=hrow.keep hbW1
   have hz1:=hB.size
   replace hB:=hB.trans (hbW1.mono hz1)
   have HSZ1:=Lib.hid hsz1
   clear hsz1
   refine x_make rfl rfl rfl (Exc.grows _ _) hC1 (fun b=>.pointer (some ⟨b,0,none⟩)) (fun K hK=>?_)
   refine ⟨.cells #[.slice none 0 0] 30,fun w' hw'=>?_,fun b6 W2 hC2 hb2 hbo hNb hnb=>?_⟩
   ·go_simp
    first
     | done
     | rfl
   refine hK _ _ _ ?_
   clear hK K
   generalize hA2:Act.put A1 _ _=A2
   have d2:A2.defers=[]:=by rw [← hA2];exact put_def hdf1
   have hsz2:A2.tmps.size=151:=by rw [← hA2];exact put_size HSZ1.out
   have e15:A2.tmps[15]?.getD undef=.pointer (some ⟨b6,0,none⟩):=by rw [← hA2];exact put_eq HSZ1.out (by omega)
   replace e57:=put_ne' hA2 e57 (by decide)
   replace e0:=put_ne' hA2 e0 (by decide)
   replace e1:=put_ne' hA2 e1 (by decide)
   replace e7:=put_ne' hA2 e7 (by decide)
   replace e10:=put_ne' hA2 e10 (by decide)
   replace e11:=put_ne' hA2 e11 (by decide)
   replace e12:=put_ne' hA2 e12 (by decide)
   replace e13:=put_ne' hA2 e13 (by decide)
   replace e14:=put_ne' hA2 e14 (by decide)
   clear hA2 hdf1 HSZ1
   have HSZ1:=Lib.hid hsz2
   clear hsz2
   refine x_do rfl rfl rfl (Exc.grows _ _) hC2 (fun K hK=>?_)
   intro W3 hW3 hb3
   obtain ⟨n0,n1,n2⟩:=made_cell ((hb3.block b6 (made_cell hbo).2.2).trans hbo)
   refine ⟨W3.setCell ⟨b6,0,none⟩ (.slice ab nb cb),?_,⟨exc_set hW3 (.inl hNb) _,by simp,fun j _ hj _=>by rw [Below.heap_setCell _ _ _ _ (fun h=>hj (by simp [h]))]⟩,?_⟩
   ·go_simp
   refine hK _ _ _ ?_
   clear hK K
   refine x_nil ?_
   show Exit.then _ _ Exit.normal A2 _
   have hbo3:=(hb3.block b6 (made_cell hbo).2.2).trans hbo
   have hb13:=hb2.trans (hb3.mono hb2.size)
   have hu6:u7.drew.heap.size≤b6:=hNb
   have x6:BoxT T (W3.setCell ⟨b6,0,none⟩ (.slice ab nb cb)) w.heap.size b6 (.seq (.seq (.par (lf 1 1) (lf 7 (p - 1))) (lf 9 0)) (lf 4 0)):=⟨fun h=>by have:=hTl _ h;omega,_,_,_,by simp [go_sem,n0],owns_other (NdsOwn.keep hb13 g57) _ _ (owns_blk_ne (NdsOwn.keep hb13 g57) hbo3 (by decide))⟩
   replace x1:=(x1.keep hb13).set hbo3 (by omega) (.slice ab nb cb)
   replace x2:=(x2.keep hb13).set hbo3 (by omega) (.slice ab nb cb)
   replace x3:=(x3.keep hb13).set hbo3 (by omega) (.slice ab nb cb)
   replace x4:=(x4.keep hb13).set hbo3 (by omega) (.slice ab nb cb)
   replace x5:=(x5.keep hb13).set hbo3 (by omega) (.slice ab nb cb)
   replace hrow:=(hrow.keep hb13).set hbo3 (.slice ab nb cb)
   replace hB:Below w.heap.size w (W3.setCell ⟨b6,0,none⟩ (.slice ab nb cb)):=(hB.trans (hb13.mono hB.size)).setCell (by simp only [World.size_drew] at hu6;simp;omega) _
   have hsW:u7.drew.heap.size≤(W3.setCell ⟨b6,0,none⟩ (.slice ab nb cb)).heap.size:=by rw [setCell_size];omega
   generalize W3.setCell ⟨b6,0,none⟩ (.slice ab nb cb)=W4 at *
   have hTl4:∀ j,T j → j<W4.heap.size:=fun j hj=>by have:=hTl j hj;omega
   clear l1 l2 l3 l4 l5 hbo hbo3 n0 n1 n2 hb2 hb3 hW3 hC2 hC1 hbW1 g57 e57 hu6 hNb hnb hb13 hTl hsW e0
   go_wp2_with fail
   have hk7:Below W4.heap.size W4 W4.drew:=(Below.refl _ _).drew
   replace x1:=x1.keep hk7
   replace x2:=x2.keep hk7
   replace x3:=x3.keep hk7
   replace x4:=x4.keep hk7
   replace x5:=x5.keep hk7
   replace x6:=x6.keep hk7
   have hz4:=hB.size
   replace hrow:=hrow.keep hk7
   replace hB:=hB.trans (hk7.mono hz4)
   have hrow4:=hrow
   refine region_acts4 (C:=Exc T _) 1 (List.range 72) (by kernel_rfl) (by kernel_rfl) (Exc.grows _ _) (Exc.refl _ _) ?_
   rw [show List.range 72=List.range 69 ++ [69,70,71] by rfl]
   refine sym_end (T:=T) (kf:=kfA 0 0) (B:=w.heap.size) (List.range 69) [(10,.box (lf 3 0)),(11,.box (lf 9 0)),(12,.box (lf 5 0)),(13,.box (lf 11 0)),(14,.box (lf 1 1)),(15,.box (.seq (.seq (.par (lf 1 1) (lf 7 (p - 1))) (lf 9 0)) (lf 4 0))),(1,.val (.int .i64 k)),(7,.val (.slice ar 36 cr))] [.mir (.seq (.seq (.par (lf 1 1) (lf 7 (p - 1))) (lf 9 0)) (lf 4 0)),.mir (.seq (lf 5 0) (lf 12 0))]
    ([(58,.val (.slice ar 36 cr)),(1,.val (.int .i64 k)),(14,.box (lf 1 1))] ++ (List.zip [73,79,94,100,106,112,118,126] ((((axT k l M S (p - 1)).drop 18).take 7).map rulOf ++ (((axT k l M S (p - 1)).drop 24).take 1).map mirOf)).map fun x=>(x.1,.ru x.2)) (by kernel_rfl) (by kernel_rfl) (by kernel_rfl) _ _ _ HSZ1.out ?hst2 (Exc.refl _ _) (Below.refl _ _) (by simpa using hz4) ?hob2 ?_
   case hst2 =>
    intro s x hx
    simp only [List.lookup] at hx
    repeat (split at hx;(rename_i hs;have hs:=eq_of_beq hs;subst hs;cases hx;first|exact (ev_tmp _ _).trans e1|exact (ev_tmp _ _).trans e7|exact x1.sv e10|exact x2.sv e11|exact x3.sv e12|exact x4.sv e13|exact x5.sv e14|exact x6.sv e15))
    cases hx
   case hob2 =>
    intro t ht
    simp only [List.mem_cons,List.not_mem_nil,or_false] at ht
    rcases ht with rfl|rfl
    ·show AxTr _
     exact HTR.out _ (List.mem_of_getElem? (i:=97) rfl)
    ·show AxTr _
     exact HTR.out _ (List.mem_of_getElem? (i:=96) rfl)
   clear x1 x2 x3 x4 x5 x6 e7 e10 e11 e12 e13 e14 e15 e1
   intro A3 W5 bs3 hsz3 hdf3 hC3 hbW5 hall
   replace hsz3:A3.tmps.size=151:=hsz3
   replace hdf3:A3.defers=[]:=hdf3.trans d2
   have e58:A3.tmps[58]?.getD undef=.slice ar 36 cr:=(ev_tmp _ _).symm.trans (hall (58,.val (.slice ar 36 cr)) (List.mem_of_getElem? (i:=0) rfl))
   have e1:A3.tmps[1]?.getD undef=.int .i64 k:=(ev_tmp _ _).symm.trans (hall (1,.val (.int .i64 k)) (List.mem_of_getElem? (i:=1) rfl))
   obtain ⟨b5,e14,x5⟩:=BoxT.of (hall (14,.box (lf 1 1)) (List.mem_of_getElem? (i:=2) rfl))
   obtain ⟨al0,nl0,cl0,ar0,nr0,cr0,e73,gl0,gr0⟩:=hall (73,.ru (rulOf ((axT k l M S (p - 1))[18]'(by show _<27;omega)))) (List.mem_of_getElem? (i:=3) rfl)
   rw [ev_tmp] at e73
   change A3.tmps[73]?.getD undef=_ at e73
   obtain ⟨al1,nl1,cl1,ar1,nr1,cr1,e79,gl1,gr1⟩:=hall (79,.ru (rulOf ((axT k l M S (p - 1))[19]'(by show _<27;omega)))) (List.mem_of_getElem? (i:=4) rfl)
   rw [ev_tmp] at e79
   change A3.tmps[79]?.getD undef=_ at e79
   obtain ⟨al2,nl2,cl2,ar2,nr2,cr2,e94,gl2,gr2⟩:=hall (94,.ru (rulOf ((axT k l M S (p - 1))[20]'(by show _<27;omega)))) (List.mem_of_getElem? (i:=5) rfl)
   rw [ev_tmp] at e94
   change A3.tmps[94]?.getD undef=_ at e94
   obtain ⟨al3,nl3,cl3,ar3,nr3,cr3,e100,gl3,gr3⟩:=hall (100,.ru (rulOf ((axT k l M S (p - 1))[21]'(by show _<27;omega)))) (List.mem_of_getElem? (i:=6) rfl)
   rw [ev_tmp] at e100
   change A3.tmps[100]?.getD undef=_ at e100
   obtain ⟨al4,nl4,cl4,ar4,nr4,cr4,e106,gl4,gr4⟩:=hall (106,.ru (rulOf ((axT k l M S (p - 1))[22]'(by show _<27;omega)))) (List.mem_of_getElem? (i:=7) rfl)
   rw [ev_tmp] at e106
   change A3.tmps[106]?.getD undef=_ at e106
   obtain ⟨al5,nl5,cl5,ar5,nr5,cr5,e112,gl5,gr5⟩:=hall (112,.ru (rulOf ((axT k l M S (p - 1))[23]'(by show _<27;omega)))) (List.mem_of_getElem? (i:=8) rfl)
   rw [ev_tmp] at e112
   change A3.tmps[112]?.getD undef=_ at e112
   obtain ⟨al6,nl6,cl6,ar6,nr6,cr6,e118,gl6,gr6⟩:=hall (118,.ru (rulOf ((axT k l M S (p - 1))[24]'(by show _<27;omega)))) (List.mem_of_getElem? (i:=9) rfl)
   rw [ev_tmp] at e118
   change A3.tmps[118]?.getD undef=_ at e118
   obtain ⟨al7,nl7,cl7,ar7,nr7,cr7,e126,gl7,gr7⟩:=hall (126,.ru (mirOf ((axT k l M S (p - 1))[24]'(by show _<27;omega)))) (List.mem_of_getElem? (i:=10) rfl)
   rw [ev_tmp] at e126
   change A3.tmps[126]?.getD undef=_ at e126
   obtain ⟨zs,hzs⟩:∃ zs:List RuV,zs=[(rulOf ((axT k l M S (p - 1))[18]'(by show _<27;omega)),.slice al0 nl0 cl0,.slice ar0 nr0 cr0),(rulOf ((axT k l M S (p - 1))[19]'(by show _<27;omega)),.slice al1 nl1 cl1,.slice ar1 nr1 cr1),(rulOf ((axT k l M S (p - 1))[20]'(by show _<27;omega)),.slice al2 nl2 cl2,.slice ar2 nr2 cr2),(rulOf ((axT k l M S (p - 1))[21]'(by show _<27;omega)),.slice al3 nl3 cl3,.slice ar3 nr3 cr3),(rulOf ((axT k l M S (p - 1))[22]'(by show _<27;omega)),.slice al4 nl4 cl4,.slice ar4 nr4 cr4),(rulOf ((axT k l M S (p - 1))[23]'(by show _<27;omega)),.slice al5 nl5 cl5,.slice ar5 nr5 cr5),(rulOf ((axT k l M S (p - 1))[24]'(by show _<27;omega)),.slice al6 nl6 cl6,.slice ar6 nr6 cr6),(mirOf ((axT k l M S (p - 1))[24]'(by show _<27;omega)),.slice al7 nl7 cl7,.slice ar7 nr7 cr7)]:=⟨_,rfl⟩
   have hall2:RuAllO W5 w.heap.size zs:=by
    rw [hzs]
    intro x hx
    simp only [List.mem_cons,List.not_mem_nil,or_false] at hx
    rcases hx with rfl|rfl|rfl|rfl|rfl|rfl|rfl|rfl
    ·exact ⟨gl0,gr0⟩
    ·exact ⟨gl1,gr1⟩
    ·exact ⟨gl2,gr2⟩
    ·exact ⟨gl3,gr3⟩
    ·exact ⟨gl4,gr4⟩
    ·exact ⟨gl5,gr5⟩
    ·exact ⟨gl6,gr6⟩
    ·exact ⟨gl7,gr7⟩
   have hzf:zs.map Prod.fst=(((axT k l M S (p - 1)).drop 18).take 7).map rulOf ++ (((axT k l M S (p - 1)).drop 24).take 1).map mirOf:=by rw [hzs];rfl
   have hzl:zs.length=8:=by rw [hzs];rfl
   clear hall gl0 gr0 gl1 gr1 gl2 gr2 gl3 gr3 gl4 gr4 gl5 gr5 gl6 gr6 gl7 gr7
   replace hrow:=hrow.keep hbW5
   have hB5:=hB.trans (hbW5.mono hB.size)
   have HX:=Lib.hid (And.intro hall2 hzf)
   have HZL:=Lib.hid hzl
   have HSZ3:=Lib.hid hsz3
   clear hall2 hzf hsz3 hzl
   refine x_make rfl rfl rfl (Exc.grows _ _) hC3 (fun b=>.slice (some ⟨b,0,none⟩) 8 8) (fun K hK=>?_)
   refine ⟨.cells (zs.flatMap ruCells).toArray 32,fun w' hw'=>?_,fun b7 W6 hC6 hb6 hbo hNb hnb=>?_⟩
   ·rw [hzs]
    go_simp
    first
     | done
     | rfl
   refine hK _ _ _ ?_
   clear hK K hzs e73 e79 e94 e100 e106 e112 e118 e126
   generalize hA4:Act.put A3 _ _=A4
   have d4:A4.defers=[]:=by rw [← hA4];exact put_def hdf3
   have hsz4:A4.tmps.size=151:=by rw [← hA4];exact put_size HSZ3.out
   have e127:A4.tmps[127]?.getD undef=.slice (some ⟨b7,0,none⟩) 8 8:=by rw [← hA4];exact put_eq HSZ3.out (by omega)
   replace e1:=put_ne' hA4 e1 (by decide)
   replace e58:=put_ne' hA4 e58 (by decide)
   replace e14:=put_ne' hA4 e14 (by decide)
   clear hA4 hdf3 HSZ3
   have HSZ4:=Lib.hid hsz4
   clear hsz4
   have hrow6:=hrow.keep hb6
   refine x_ruapp rfl rfl rfl hC6 (.tmp 58) (.tmp 127) rfl w.heap.size (.slice ar 36 cr) ys zs b7 8 8 HZL.out ((ev_tmp _ _).trans e58) ((ev_tmp _ _).trans e127) (fun j hj=>.inl ⟨hTl4 j (hT2 j hj),hT2 j hj⟩) (by have h1:=hbW5.size;have h2:=hb6.size;simp only [World.size_drew] at h1;omega) (by have:=HF.out.2.2;omega) hrow6 (HX.out.1.keep hb6) hbo ?_
   intro K hK W7 W8 v8 hW7 hb7 hrow8 hg8 hW8 hv8
   refine hK _ _ _ ?_
   clear hK K
   generalize hA5:Act.put A4 _ _=A5
   have d5:A5.defers=[]:=by rw [← hA5];exact put_def d4
   have hsz5:A5.tmps.size=151:=by rw [← hA5];exact put_size HSZ4.out
   have e128:A5.tmps[128]?.getD undef=v8:=by rw [← hA5];exact put_eq HSZ4.out (by omega)
   replace e1:=put_ne' hA5 e1 (by decide)
   replace e14:=put_ne' hA5 e14 (by decide)
   clear hA5 d4 HSZ4 e58 e127
   have HSZ5:=Lib.hid hsz5
   clear hsz5
   refine x_still rfl rfl rfl (fun K hK=>?_)
   refine ⟨v8,fun w' hw'=>?_,?_⟩
   ·go_simp
   refine hK _ _ _ ?_
   clear hK K
   generalize hA6:Act.put A5 _ _=A6
   have d6:A6.defers=[]:=by rw [← hA6];exact put_def d5
   have hsz6:A6.tmps.size=151:=by rw [← hA6];exact put_size HSZ5.out
   have e7:A6.tmps[7]?.getD undef=v8:=by rw [← hA6];exact put_eq HSZ5.out (by omega)
   replace e1:=put_ne' hA6 e1 (by decide)
   replace e14:=put_ne' hA6 e14 (by decide)
   clear hA6 d5 HSZ5 e128
   have HSZ6:=Lib.hid hsz6
   clear hsz6
   refine x_nil ?_
   show Exit.then _ _ Exit.normal A6 _
   have hNN:∀ (v:Value) ns,NdsOwn W4.drew w.heap.size v ns → ∀ j,v.ownBlock=some j → ¬ T j:=fun v ns hv j hj hTj=>owns_ne hv hrow4.1 (by decide) j hj (hT1 j hTj)
   have l5:b5<W4.drew.heap.size:=by obtain ⟨_,_,_,_,h,_⟩:=x5;exact cell_lt h
   replace x5:=x5.exc hW8 hNN
   have hBB:Below w.heap.size w W8:=hB.trans (hW8.low (fun j hj=>(World.ownsRow.lt hrow4.1 j (hT1 j hj)).1) hB.size)
   have hL44:(ys ++ zs).map Prod.fst=L36 ++ ((((axT k l M S (p - 1)).drop 18).take 7).map rulOf ++ (((axT k l M S (p - 1)).drop 24).take 1).map mirOf):=by rw [List.map_append,HF.out.1,HX.out.2]
   have h44:(ys ++ zs).length=44:=by rw [List.length_append,HF.out.2.2,HZL.out]
   have hx8:∀ j,v8.ownBlock=some j → ¬ j=b5:=fun j hj e=>by
    subst e
    have h7:=hW7.size
    rcases hv8 with h|h
    ·exact x5.off (hT2 _ (h ▸ hj))
    ·rw [h] at hj;have:=Option.some.inj hj;omega
   replace x5:BoxT (fun j=>v8.ownBlock=some j) W8 w.heap.size b5 (lf 1 1):=by
    obtain ⟨_,h⟩:=x5
    exact ⟨fun e=>hx8 _ e rfl,h⟩
   obtain ⟨ys8,hys8⟩:∃ ys8,ys8=ys ++ zs:=⟨_,rfl⟩
   rw [← hys8] at hrow8 hL44 h44
   have HL44:=Lib.hid hL44
   have H44:=Lib.hid h44
   (try clear hys8);(try clear hL44);(try clear h44);(try clear hx8);(try clear hNN);(try clear hW8);(try clear hg8);(try clear hv8);(try clear hW7);(try clear hb7);(try clear hrow6);(try clear hrow4);(try clear hrow);(try clear hC6);(try clear hb6);(try clear hbo);(try clear hNb);(try clear hnb);(try clear hC3);(try clear hbW5);(try clear HX);(try clear HZL);(try clear l5);(try clear hk7);(try clear hz4);(try clear hB5);(try clear hB);(try clear hTl4);(try clear hT1);(try clear hT2);(try clear hT3);(try clear hrow);(try clear hz1);(try clear d2);(try clear HSZ1)
   generalize W8=U at *
   have hsz7:=HSZ6.out
   have E:=Lib.hid (And.intro e1 (And.intro e7 e14))
   have f1:=get_of e1 hsz7 (by omega)
   have f7:=get_of e7 hsz7 (by omega)
   have f14:=get_of e14 hsz7 (by omega)
   clear e1 e7 e14
   by_cases hk0:k=0
   ·have hk1:(k != 0)=false:=by simp [hk0]
    have HK0:=Lib.hid hk0
    clear hk0
    go_wp2_with fail
    refine wp_cond_false (by simp [Act.eval,hsz7]) ?_
    generalize hA7:({ tmps:=(A6.tmps.setIfInBounds 129 (Value.int IntKind.i64 k)).setIfInBounds 130 (Value.bool false),defers:=[] }:Act)=A7
    obtain ⟨hsz8,d8⟩:=put2_size hA7 hsz7
    have e1:=put2 hA7 E.out.1 (by decide) (by decide)
    have e7:=put2 hA7 E.out.2.1 (by decide) (by decide)
    have e14:=put2 hA7 E.out.2.2 (by decide) (by decide)
    clear hA7 f1 f7 f14 hsz7 d6
    have f7:=get_of e7 hsz8 (by omega)
    clear e1 e7 e14
    go_wp2
    refine bodyPost_ret (v:=v8) (by simp [results,Tryz.results37,go_sem,hsz8]) (by first|rfl|assumption) ⟨_,_,rfl,?_,hrow8,hBB⟩
    rw [HL44.out,HLL.out,if_pos HK0.out,List.append_nil,HF.out.2.1,HA.out]
    simp only [List.append_assoc]
   ·have hk1:(k != 0)=true:=by simp [hk0]
    have HK0:=Lib.hid hk0
    clear hk0
    go_wp2_with fail
    refine wp_cond_true (by simp [Act.eval,hsz7]) ?_
    generalize hA7:({ tmps:=(A6.tmps.setIfInBounds 129 (Value.int IntKind.i64 k)).setIfInBounds 130 (Value.bool true),defers:=[] }:Act)=A7
    obtain ⟨hsz8,d8⟩:=put2_size hA7 hsz7
    have e1:=put2 hA7 E.out.1 (by decide) (by decide)
    have e7:=put2 hA7 E.out.2.1 (by decide) (by decide)
    have e14:=put2 hA7 E.out.2.2 (by decide) (by decide)
    clear hA7 f1 f7 f14 hsz7 d6
    have HSZ8:=Lib.hid hsz8
    clear hsz8 HSZ6
    obtain ⟨T8,hT8⟩:∃ T:Nat → Prop,T=fun j=>v8.ownBlock=some j:=⟨_,rfl⟩
    rw [← hT8] at x5
    have hT1:∀ j,T8 j → v8.ownBlock=some j:=by rw [hT8];exact fun k hk=>hk
    have hT2:∀ j,v8.ownBlock=some j → T8 j:=by rw [hT8];exact fun k hk=>hk
    clear hT8
    have hk8:Below U.heap.size U U.drew:=(Below.refl _ _).drew
    have hzU:=hBB.size
    replace x5:=x5.keep hk8
    replace hrow8:=hrow8.keep hk8
    replace hBB:=hBB.trans (hk8.mono hzU)
    have hTl8:∀ j,T8 j → j<U.drew.heap.size:=fun j hj=>(World.ownsRow.lt hrow8.1 j (hT1 j hj)).2
    have hTw8:∀ j,T8 j → w.heap.size≤j:=fun j hj=>(World.ownsRow.lt hrow8.1 j (hT1 j hj)).1
    refine region_acts4 (C:=Exc T8 _) 1 (List.range 20) (by kernel_rfl) (by kernel_rfl) (Exc.grows _ _) (Exc.refl _ _) ?_
    rw [show List.range 20=List.range 17 ++ [17,18,19] by rfl]
    refine sym_end (T:=T8) (kf:=kfA 0 0) (B:=w.heap.size) (List.range 17) [(14,.box (lf 1 1)),(1,.val (.int .i64 k)),(7,.val v8)] []
     ([(131,.val v8)] ++ (List.zip [139,147] (((axT k l M S (p - 1)).drop 25).map rulOf)).map fun x=>(x.1,.ru x.2)) (by kernel_rfl) (by kernel_rfl) (by kernel_rfl) _ _ _ HSZ8.out ?hst3 (Exc.refl _ _) (Below.refl _ _) (by simpa using hzU) ?hob3 ?_
    case hst3 =>
     intro s x hx
     simp only [List.lookup] at hx
     repeat (split at hx;(rename_i hs;have hs:=eq_of_beq hs;subst hs;cases hx;first|exact (ev_tmp _ _).trans e1|exact (ev_tmp _ _).trans e7|exact x5.sv e14))
     cases hx
    case hob3 =>
     intro t ht
     cases ht
    clear x5 e1 e7 e14
    intro A3 W5 bs3 hsz3 hdf3 hC3 hbW5 hall
    replace hsz3:A3.tmps.size=151:=hsz3
    replace hdf3:A3.defers=[]:=hdf3.trans d8
    have e131:A3.tmps[131]?.getD undef=v8:=(ev_tmp _ _).symm.trans (hall (131,.val v8) (List.mem_of_getElem? (i:=0) rfl))
    obtain ⟨al0,nl0,cl0,ar0,nr0,cr0,e139,gl0,gr0⟩:=hall (139,.ru (rulOf ((axT k l M S (p - 1))[25]'(by show _<27;omega)))) (List.mem_of_getElem? (i:=1) rfl)
    rw [ev_tmp] at e139
    change A3.tmps[139]?.getD undef=_ at e139
    obtain ⟨al1,nl1,cl1,ar1,nr1,cr1,e147,gl1,gr1⟩:=hall (147,.ru (rulOf ((axT k l M S (p - 1))[26]'(by show _<27;omega)))) (List.mem_of_getElem? (i:=2) rfl)
    rw [ev_tmp] at e147
    change A3.tmps[147]?.getD undef=_ at e147
    obtain ⟨zs,hzs⟩:∃ zs:List RuV,zs=[(rulOf ((axT k l M S (p - 1))[25]'(by show _<27;omega)),.slice al0 nl0 cl0,.slice ar0 nr0 cr0),(rulOf ((axT k l M S (p - 1))[26]'(by show _<27;omega)),.slice al1 nl1 cl1,.slice ar1 nr1 cr1)]:=⟨_,rfl⟩
    have hall2:RuAllO W5 w.heap.size zs:=by
     rw [hzs]
     intro x hx
     simp only [List.mem_cons,List.not_mem_nil,or_false] at hx
     rcases hx with rfl|rfl
     ·exact ⟨gl0,gr0⟩
     ·exact ⟨gl1,gr1⟩
    have hzf:zs.map Prod.fst=((axT k l M S (p - 1)).drop 25).map rulOf:=by rw [hzs];rfl
    have hzl:zs.length=2:=by rw [hzs];rfl
    clear hall gl0 gr0 gl1 gr1
    replace hrow8:=hrow8.keep hbW5
    have HX:=Lib.hid (And.intro hall2 hzf)
    have HZL:=Lib.hid hzl
    have HSZ3:=Lib.hid hsz3
    clear hall2 hzf hsz3 hzl HSZ8
    refine x_make rfl rfl rfl (Exc.grows _ _) hC3 (fun b=>.slice (some ⟨b,0,none⟩) 2 2) (fun K hK=>?_)
    refine ⟨.cells (zs.flatMap ruCells).toArray 32,fun w' hw'=>?_,fun b7 W6 hC6 hb6 hbo hNb hnb=>?_⟩
    ·rw [hzs]
     go_simp
     first
      | done
      | rfl
    refine hK _ _ _ ?_
    clear hK K hzs e139 e147
    generalize hA4:Act.put A3 _ _=A4
    have d4:A4.defers=[]:=by rw [← hA4];exact put_def hdf3
    have hsz4:A4.tmps.size=151:=by rw [← hA4];exact put_size HSZ3.out
    have e148:A4.tmps[148]?.getD undef=.slice (some ⟨b7,0,none⟩) 2 2:=by rw [← hA4];exact put_eq HSZ3.out (by omega)
    replace e131:=put_ne' hA4 e131 (by decide)
    clear hA4 hdf3 HSZ3
    have HSZ4:=Lib.hid hsz4
    clear hsz4
    have hrow6:=hrow8.keep hb6
    refine x_ruapp rfl rfl rfl hC6 (.tmp 131) (.tmp 148) rfl w.heap.size v8 ys8 zs b7 2 2 HZL.out ((ev_tmp _ _).trans e131) ((ev_tmp _ _).trans e148) (fun j hj=>.inl ⟨hTl8 j (hT2 j hj),hT2 j hj⟩) (by have h1:=hbW5.size;have h2:=hb6.size;simp only [World.size_drew] at h1;omega) (by have:=H44.out;omega) hrow6 (HX.out.1.keep hb6) hbo ?_
    intro K hK W7 W8 v9 hW7 hb7 hrow9 hg8 hW8 hv9
    refine hK _ _ _ ?_
    clear hK K
    generalize hA5:Act.put A4 _ _=A5
    have d5:A5.defers=[]:=by rw [← hA5];exact put_def d4
    have hsz5:A5.tmps.size=151:=by rw [← hA5];exact put_size HSZ4.out
    have e149:A5.tmps[149]?.getD undef=v9:=by rw [← hA5];exact put_eq HSZ4.out (by omega)
    clear hA5 d4 HSZ4 e131 e148
    have HSZ5:=Lib.hid hsz5
    clear hsz5
    refine x_still rfl rfl rfl (fun K hK=>?_)
    refine ⟨v9,fun w' hw'=>?_,?_⟩
    ·go_simp
    refine hK _ _ _ ?_
    clear hK K
    generalize hA9:Act.put A5 _ _=A9
    have d9:A9.defers=[]:=by rw [← hA9];exact put_def d5
    have hsz9:A9.tmps.size=151:=by rw [← hA9];exact put_size HSZ5.out
    have e7:A9.tmps[7]?.getD undef=v9:=by rw [← hA9];exact put_eq HSZ5.out (by omega)
    clear hA9 d5 HSZ5 e149
    refine x_nil ?_
    show Exit.then _ _ Exit.normal A9 _
    have hBB9:Below w.heap.size w W8:=hBB.trans (hW8.low hTw8 hBB.size)
    have hL46:(ys8 ++ zs).map Prod.fst=LL:=by
     rw [List.map_append,HL44.out,HX.out.2,HLL.out,if_neg HK0.out,HF.out.2.1,HA.out]
     simp only [List.append_assoc]
    clear hW8 hrow6 hbo hb6 hb7 hW7 hC6 hC3 hbW5 hrow8 hg8 hv9
    have f7:=get_of e7 hsz9 (by omega)
    clear e7
    go_wp2
    refine bodyPost_ret (v:=v9) (by simp [results,Tryz.results37,go_sem,hsz9]) (by first|rfl|assumption) ⟨_,_,rfl,?_,hrow9,hBB9⟩
    exact hL46
end Go.Proofs.YtbljmfcifljkaaaGreatDoor

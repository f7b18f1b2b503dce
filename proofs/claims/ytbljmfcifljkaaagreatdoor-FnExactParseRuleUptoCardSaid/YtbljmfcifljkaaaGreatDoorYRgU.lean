/-
  The program's graphOf. Own work; printed by parGo.py.
-/
import Derived.Test.YtbljmfcifljkaaaGreatDoorYGE
set_option linter.all false
set_option maxRecDepth 100000
set_option maxHeartbeats 8000000
namespace Go.Proofs.YtbljmfcifljkaaaGreatDoor
open Go.RowKit
set_option maxRecDepth 100000
set_option maxHeartbeats 1000000
theorem gk_split {xs:List GrV} {b a:GrI} {r:List GrI} (h:(xs.map Prod.fst).reverse=b :: a :: r):∃ xs0 xa xb,xs=xs0 ++ [xa,xb]∧xa.1=a∧xb.1=b∧(xs0.map Prod.fst).reverse=r:=by
 rw [← List.map_reverse] at h
 obtain ⟨ys,hys⟩:∃ ys,xs.reverse=ys:=⟨_,rfl⟩
 rw [hys] at h
 match ys,h with
 | xb :: xa :: zs,h =>
  simp only [List.map_cons,List.cons.injEq] at h
  obtain ⟨h1,h2,h3⟩:=h
  refine ⟨zs.reverse,xa,xb,?_,h2,h1,?_⟩
  ·have:=congrArg List.reverse hys
   rw [List.reverse_reverse] at this
   rw [this];simp
  ·rw [← List.map_reverse,List.reverse_reverse];exact h3
theorem GkS.two {w:World} {B g cap:Nat} {xs0:List GrV} {xa xb:GrV} (h:GkS w B (.slice (some ⟨g,0,none⟩) (xs0 ++ [xa,xb]).length cap) (xs0 ++ [xa,xb])) :
  (w.cell? ⟨g,xs0.length * 4,none⟩=some (.int .i64 xa.1.wires)∧w.cell? ⟨g,xs0.length * 4+1,none⟩=some xa.2.1∧w.cell? ⟨g,xs0.length * 4+2,none⟩=some xa.2.2.1∧w.cell? ⟨g,xs0.length * 4+3,none⟩=some xa.2.2.2) ∧
  (w.cell? ⟨g,(xs0.length+1) * 4,none⟩=some (.int .i64 xb.1.wires)∧w.cell? ⟨g,(xs0.length+1) * 4+1,none⟩=some xb.2.1∧w.cell? ⟨g,(xs0.length+1) * 4+2,none⟩=some xb.2.2.1∧w.cell? ⟨g,(xs0.length+1) * 4+3,none⟩=some xb.2.2.2):=by
 have c1:=h.cells xs0.length (by simp)
 have c2:=h.cells (xs0.length+1) (by simp)
 have e1:(xs0 ++ [xa,xb])[xs0.length]'(by simp)=xa:=by simp
 have e2:(xs0 ++ [xa,xb])[xs0.length+1]'(by simp)=xb:=by simp
 rw [e1] at c1
 rw [e2] at c2
 exact ⟨c1,c2⟩
theorem seqQ (x y:GrV) (u:World) (hx:GrR u x.2.1 x.2.2.1 x.2.2.2 x.1) (hy:GrR u y.2.1 y.2.2.1 y.2.2.2 y.1) (ga:grB x.1=true) (gb:grB y.1=true) (hfit:x.1.outs.length=y.1.ins.length) :
  Calls Tryz.prog 186 #[.agg #[.int .i64 x.1.wires,x.2.1,x.2.2.1,x.2.2.2],.agg #[.int .i64 y.1.wires,y.2.1,y.2.2.1,y.2.2.2]] u (GrMq (sqI x.1 y.1) u):=by
 obtain ⟨⟨W,E,I,O⟩,ve,vi,vo⟩:=x
 obtain ⟨⟨W',E',I',O'⟩,ve',vi',vo'⟩:=y
 obtain ⟨⟨n,h0,-⟩,-⟩:=grB_parts ga
 obtain ⟨⟨m,k0,-⟩,-⟩:=grB_parts gb
 simp only at h0 k0
 subst h0
 subst k0
 exact (seqGraphs_any n m E E' I I' O O' ve vi vo ve' vi' vo' u hx hy ga gb hfit).mono fun _ _ h=>h.mq
theorem parQ (x y:GrV) (u:World) (hx:GrR u x.2.1 x.2.2.1 x.2.2.2 x.1) (hy:GrR u y.2.1 y.2.2.1 y.2.2.2 y.1) (ga:grB x.1=true) (gb:grB y.1=true) :
  Calls Tryz.prog 187 #[.agg #[.int .i64 x.1.wires,x.2.1,x.2.2.1,x.2.2.2],.agg #[.int .i64 y.1.wires,y.2.1,y.2.2.1,y.2.2.2]] u (GrMq (prI x.1 y.1) u):=by
 obtain ⟨⟨W,E,I,O⟩,ve,vi,vo⟩:=x
 obtain ⟨⟨W',E',I',O'⟩,ve',vi',vo'⟩:=y
 obtain ⟨⟨n,h0,-⟩,-⟩:=grB_parts ga
 obtain ⟨⟨m,k0,-⟩,-⟩:=grB_parts gb
 simp only at h0 k0
 subst h0
 subst k0
 exact (parGraphs_any n m E E' I I' O O' ve vi vo ve' vi' vo' u hx hy ga gb).mono fun _ _ h=>h.mq
theorem join15 {p q x:W2} (h:joinW 15 p q=some x):p.2=q.1∧x=(p.1,q.2):=by
 unfold joinW at h
 rw [if_pos rfl] at h
 split at h
 ·rename_i hh;exact ⟨hh,by simpa using h.symm⟩
 ·cases h
theorem join16 {p q x:W2} (h:joinW 16 p q=some x):x=(p.1+q.1,p.2+q.2):=by
 unfold joinW at h
 rw [if_neg (by decide)] at h
 split at h
 ·simpa using h.symm
 ·cases h
theorem sq_md {a b:GrI} {p q x:W2} (ha:MdG a p) (hb:MdG b q) (hj:joinW 15 p q=some x) (hg:grB (sqI a b)=true):MdG (sqI a b) x:=by
 obtain ⟨h1,rfl⟩:=join15 hj
 exact ⟨hg,by rw [sq_ins];exact ha.a,by rw [sq_outs];exact hb.b⟩
theorem pr_md {a b:GrI} {p q x:W2} (ha:MdG a p) (hb:MdG b q) (hj:joinW 16 p q=some x) (hg:grB (prI a b)=true):MdG (prI a b) x:=by
 obtain rfl:=join16 hj
 refine ⟨hg,?_,?_⟩
 ·rw [pr_ins];have:=ha.a;have:=hb.a;simp only;omega
 ·rw [pr_outs];have:=ha.b;have:=hb.b;simp only;omega
theorem grOk_sq {a b:GrI} (ha:grB a=true) (hb:grB b=true):GrOk (sqI a b):=by
 have h:=op_w ha hb
 have h1:=h.ok
 refine ⟨?_,fun e he=>?_,?_,?_⟩
 ·unfold sqI glI mvI;simp only [List.length_map];have:=h1.ed;omega
 ·unfold sqI glI mvI at he
  obtain ⟨x,hx,rfl⟩:=List.mem_map.1 he
  have:=h1.eds x hx
  exact ⟨by simp only [mvE,pickL_len];omega,by simp only [mvE,pickL_len];omega⟩
 ·rw [sq_ins];have:=(grB_parts ha).2.2.1;omega
 ·rw [sq_outs];have:=(grB_parts hb).2.2.2.1;omega
theorem grOk_pr {a b:GrI} (ha:grB a=true) (hb:grB b=true):GrOk (prI a b):=by
 have h:=op_w ha hb
 have h1:=h.ok
 refine ⟨?_,fun e he=>?_,?_,?_⟩
 ·show (opI a b).edges.length≤1048576;have:=h1.ed;omega
 ·have:=h1.eds e he
  exact ⟨by omega,by omega⟩
 ·rw [pr_ins];have:=(grB_parts ha).2.2.1;have:=(grB_parts hb).2.2.1;omega
 ·rw [pr_outs];have:=(grB_parts ha).2.2.2.1;have:=(grB_parts hb).2.2.2.1;omega
theorem grOk_b {a:GrI} (ha:grB a=true):GrOk a:=by
 obtain ⟨⟨n,h0,-⟩,-⟩:=grB_parts ha
 exact (grB_w ha h0).ok.ok
theorem graphOf_any (v:Value) (ns:List Nd) (x:W2) (w:World) (hv:NdsAt w v ns) (hty:typedL (leafIn []) ns=some x) :
  Calls Tryz.prog 117 #[.agg #[v]] w (GoP (mkG ns) w):=by
 have hnl:=typedL_len hty
 have hgo:typedGo (leafIn []) ns []=some [x]:=by
  unfold typedL at hty
  split at hty
  ·split at hty
   ·rename_i y hy;rw [hy];simpa using hty
   ·cases hty
  ·cases hty
 obtain ⟨R,hR⟩:∃ R,mkG ns=R:=⟨_,rfl⟩
 have HGO:=Lib.hid (And.intro hgo hR)
 rw [hR]
 clear hty hgo hR
 obtain ⟨av,cv,rfl,hcv,hat⟩:=hv
 have HAT:=Lib.hid hat
 clear hat
 have hA1:=alloc_below w (.cells #[.slice av ns.length cv] 30)
 have hA2:=alloc_below (w.alloc (.cells #[.slice av ns.length cv] 30)) (.cells #[.int .i64 0,.slice none 0 0,.slice none 0 0,.slice none 0 0] 53)
 have hB:=hA1.trans (hA2.mono hA1.size)
 have kR:=Bk.new (w.alloc (.cells #[.slice av ns.length cv] 30)) 53 #[.int .i64 0,.slice none 0 0,.slice none 0 0,.slice none 0 0]
 simp only [World.size_alloc] at kR
 go_enter Tryz.func117,Tryz.ntmps117
 go_wp2_with fail
 have hsz0:((w.alloc (.cells #[.slice av ns.length cv] 30)).alloc (.cells #[.int .i64 0,.slice none 0 0,.slice none 0 0,.slice none 0 0] 53)).heap.size=w.heap.size+1+1:=by simp
 have hg0:=GkS.empty ((w.alloc (.cells #[.slice av ns.length cv] 30)).alloc (.cells #[.int .i64 0,.slice none 0 0,.slice none 0 0,.slice none 0 0] 53)) (w.heap.size+1+1) (w.heap.size+1+1) (by simp) (Nat.le_refl _)
 have hA3:=alloc_below ((w.alloc (.cells #[.slice av ns.length cv] 30)).alloc (.cells #[.int .i64 0,.slice none 0 0,.slice none 0 0,.slice none 0 0] 53)) (.cells #[] 53)
 clear hA1 hA2
 generalize ((w.alloc (.cells #[.slice av ns.length cv] 30)).alloc (.cells #[.int .i64 0,.slice none 0 0,.slice none 0 0,.slice none 0 0] 53))=u0 at *
 have HS0:=Lib.hid hsz0
 clear hsz0
 go_loopw [4,13] (fun sv i wr=>∃ k:Nat,k≤ns.length∧i=.int .i64 k∧∃ xs tys,GkS wr (w.heap.size+1+1) sv xs∧xs.length≤k∧Below u0.heap.size u0 wr∧Hid (typedGo (leafIn []) (ns.drop k) tys=some [x])∧Hid (MdR (xs.map Prod.fst).reverse tys)∧Hid (grGo ns []=grGo (ns.drop k) (xs.map Prod.fst).reverse)) (fun _ i _=>ns.length - (intOf i).toNat)
 case atStart=>exact ⟨0,Nat.zero_le _,rfl,[],[],hg0,Nat.le_refl _,hA3,HGO.out.1,trivial,rfl⟩
 case round =>
  clear hg0 hA3
  obtain ⟨k,hk,rfl,xs,tys,hst,hxk,hbel,HT,HM,HGG⟩:=hrel
  by_cases hlk:k<ns.length
  ·obtain ⟨bn,on,rfl,_,n0,n1,n2⟩:=HAT.out k hlk
   have hBw:=hB.trans (hbel.mono hB.size)
   replace n0:=cell_keep hBw n0
   replace n1:=cell_keep hBw n1
   replace n2:=cell_keep hBw n2
   have zn:=cell_lt n0
   have hdrop:=List.drop_eq_getElem_cons hlk
   obtain ⟨n,hn⟩:∃ n,ns[k]=n:=⟨_,rfl⟩
   rw [hn] at n0 n1 n2 hdrop
   have htt:=HT.out
   have hgg:=HGG.out
   rw [hdrop] at htt hgg
   have kR1:=kR.keep hbel
   have hlo:=hbel.size
   have hs0:=HS0.out
   have h58:wr.heap.size+1≤wr.heap.size+1+1:=by omega
   have HLK:=Lib.hid hlk
   clear hn hdrop HT HGG hs0
   by_cases hk15:n.kind=15
   ·have hjj:∃ b a r y,tys=b :: a :: r∧joinW 15 a b=some y∧typedGo (leafIn []) (ns.drop (k+1)) (y :: r)=some [x]:=by
     unfold typedGo at htt
     rw [if_pos (.inl hk15)] at htt
     split at htt
     ·split at htt
      ·rename_i b a r
       rw [hk15] at htt
       split at htt
       ·rename_i y hy
        exact ⟨b,a,r,y,rfl,hy,htt⟩
       ·cases htt
      ·cases htt
     ·cases htt
    obtain ⟨tb,ta,tr,ty,rfl,hjw,htt2⟩:=hjj
    obtain ⟨gs,hgs⟩:∃ gs,(xs.map Prod.fst).reverse=gs:=⟨_,rfl⟩
    have hmm:=HM.out
    rw [hgs] at hmm hgg
    obtain ⟨gb,ga,gr,rfl⟩:∃ gb ga gr,gs=gb :: ga :: gr:=by
     have:=hmm.len
     match gs,this with
     | [],h=>simp at h
     | [_],h=>simp at h
     | b :: a :: r,_=>exact ⟨b,a,r,rfl⟩
    obtain ⟨mb,ma,mr⟩:=hmm
    obtain ⟨xs0,xa,xb,rfl,rfl,rfl,hr0⟩:=gk_split hgs
    rw [grGo_seq hk15] at hgg
    obtain ⟨G,hG⟩:∃ G,sqI xa.1 xb.1=G:=⟨_,rfl⟩
    have hmd:=fun hg=>sq_md ma mb hjw hg
    have hokk:=grOk_sq ma.ok mb.ok
    have hfit:xa.1.outs.length=xb.1.ins.length:=by have h1:=ma.b;have h2:=mb.a;have h3:=(join15 hjw).1;omega
    obtain ⟨g,cap,rfl,hcap,hBg,hgz⟩:=hst.blk (by simp)
    obtain ⟨ca,cb⟩:=hst.two
    have hq:=(fun u (hb:Below wr.heap.size wr u)=>seqQ xa xb u ((hst.rws xa (by simp)).keep hb).at ((hst.rws xb (by simp)).keep hb).at ma.ok mb.ok hfit)
    rw [hG] at hgg hmd hokk hq
    have HTT:=Lib.hid htt2
    have HGG2:=Lib.hid hgg
    have HMD:=Lib.hid hmd
    have HMR:=Lib.hid mr
    have HR0:=Lib.hid hr0
    have HOK:=Lib.hid hokk
    have HXL:=Lib.hid hxk
    have HQ:=Lib.hid hq
    have HST:=Lib.hid hst
    rw [List.length_append] at hcap hxk ⊢
    simp only [List.length_cons,List.length_nil] at hcap hxk ⊢
    obtain ⟨l0,hl0⟩:∃ l,xs0.length=l:=⟨_,rfl⟩
    rw [hl0] at ca cb hcap hxk ⊢
    have HL0:=Lib.hid hl0
    clear hl0 hst htt2 hgg hfit hjw ma mb mr hr0 hgs HM htt hmd hokk hq hG
    obtain ⟨a0,a1,a2,a3⟩:=ca
    obtain ⟨b0,b1,b2,b3⟩:=cb
    have hw1:IntKind.i64.wrap ((l0:Int)+2 - 1)=(l0:Int)+1:=by rw [IntWalk.i64_in _ (by omega)];omega
    have hw2:IntKind.i64.wrap (l0:Int)=(l0:Int):=IntWalk.i64_in _ (by omega)
    have hlt2:(l0:Int)<(l0:Int)+2:=by omega
    have hlt3:(l0:Int)+1<(l0:Int)+2:=by omega
    go_wp2_with fail
    have hA4:=alloc_below wr (.cells #[.int .i64 15,.int .i64 n.value,.string n.name] 144)
    have hA5:=alloc_below (wr.alloc (.cells #[.int .i64 15,.int .i64 n.value,.string n.name] 144)) (.cells #[.int .i64 0,.slice none 0 0,.slice none 0 0,.slice none 0 0] 53)
    have hb2:=hA4.trans (hA5.mono hA4.size)
    have k8:=Bk.new (wr.alloc (.cells #[.int .i64 15,.int .i64 n.value,.string n.name] 144)) 53 #[.int .i64 0,.slice none 0 0,.slice none 0 0,.slice none 0 0]
    simp only [World.size_alloc] at k8
    clear hA4 hA5
    generalize ((wr.alloc (.cells #[.int .i64 15,.int .i64 n.value,.string n.name] 144)).alloc (.cells #[.int .i64 0,.slice none 0 0,.slice none 0 0,.slice none 0 0] 53))=u2 at *
    replace a0:=cell_keep hb2 a0
    replace a1:=cell_keep hb2 a1
    replace a2:=cell_keep hb2 a2
    replace a3:=cell_keep hb2 a3
    replace b0:=cell_keep hb2 b0
    replace b1:=cell_keep hb2 b1
    replace b2:=cell_keep hb2 b2
    replace b3:=cell_keep hb2 b3
    have hgz2:=cell_lt a0
    have hneg:¬ g=wr.heap.size+1:=by omega
    generalize hbx:wr.heap.size+1=b8 at *
    have HB8:=Lib.hid hbx
    have bd:∀ {u:World},Below u2.drew.heap.size u2.drew u → Below wr.heap.size wr u:=fun h=>hb2.trans (((Below.refl u2.heap.size u2).drew.trans (h.mono (by simp))).mono hb2.size)
    clear hbx n0 n1 n2
    refine region_acts (C:=Exc ((fun j=>j=b8)) _) 4 [0,1,2,3,4,5,6,7,8,9,10] (by kernel_rfl) (by kernel_rfl) (Exc.grows _ _) (Exc.refl _ _) ?_
    iterate 9 (apply x_sT rfl rfl rfl;(focus intro u hc' hf';(try simp only [World.size_drew] at hc' hf');go_simp <;> rfl);intro K hK;go_simp;apply hK;clear hK K)
    refine x_call rfl rfl rfl (Exc.grows _ _) (Exc.refl _ _) 186 (fun K hK=>?_);apply Exists.intro;refine ⟨fun w' hw'=>?_,fun wa hwa hbwa=>?_⟩;(focus go_simp;rfl);refine (HQ.out _ (bd hbwa)).mono ?_;rintro e w4 ⟨x1,y1,x2,y2,x3,y3,rfl,hg4,hb4⟩;refine ⟨_,rfl,hb4,fun hx=>?_⟩;go_simp;apply hK;clear hK K
    have h14:=(bd hbwa).trans (hb4.mono (bd hbwa).size)
    refine x_do rfl rfl rfl (Exc.grows _ _) hx (fun K hK=>?_)
    intro w5 hw5 hb45
    have h24:Below u2.heap.size u2 w5:=(((Below.refl u2.heap.size u2).drew.trans (hbwa.mono (by simp))).trans (hb4.mono (by have:=hbwa.size;simpa using this))).trans (hb45.mono (by have:=hbwa.size;have:=hb4.size;simp at *;omega))
    have k85:=k8.keep h24
    obtain ⟨m0,m1,m2⟩:=k85.cell
    have hg5:=hg4.keep hb45
    refine ⟨(((w5.setCell ⟨b8,0,none⟩ (.int .i64 G.wires)).setCell ⟨b8,1,none⟩ (.slice x1 G.edges.length y1)).setCell ⟨b8,2,none⟩ (.slice x2 G.ins.length y2)).setCell ⟨b8,3,none⟩ (.slice x3 G.outs.length y3),?_,⟨exc_set (exc_set (exc_set (exc_set hw5 (.inr rfl) _) (.inr rfl) _) (.inr rfl) _) (.inr rfl) _,by simp,fun j hj _ _=>by
     have hj2:¬ (j=b8):=by intro hh;have:=k8.lt;simp only [World.size_drew] at hj;omega
     rw [Below.heap_setCell _ _ _ _ (fun h=>hj2 (by simpa using h)),Below.heap_setCell _ _ _ _ (fun h=>hj2 (by simpa using h)),Below.heap_setCell _ _ _ _ (fun h=>hj2 (by simpa using h)),Below.heap_setCell _ _ _ _ (fun h=>hj2 (by simpa using h))]⟩,?_⟩
    ·go_simp
    go_simp
    refine hK _ _ _ ?_
    clear hK K
    refine x_nil ?_
    have hB8:=HB8.out
    have hge:wr.heap.size≤b8:=by omega
    have hBW:Below wr.heap.size wr ((((w5.setCell ⟨b8,0,none⟩ (.int .i64 G.wires)).setCell ⟨b8,1,none⟩ (.slice x1 G.edges.length y1)).setCell ⟨b8,2,none⟩ (.slice x2 G.ins.length y2)).setCell ⟨b8,3,none⟩ (.slice x3 G.outs.length y3)):=below_res (h14.trans (hb45.mono h14.size)) hge _ _ _ _
    have k9:Bk ((((w5.setCell ⟨b8,0,none⟩ (.int .i64 G.wires)).setCell ⟨b8,1,none⟩ (.slice x1 G.edges.length y1)).setCell ⟨b8,2,none⟩ (.slice x2 G.ins.length y2)).setCell ⟨b8,3,none⟩ (.slice x3 G.outs.length y3)) b8 53 #[.int .i64 G.wires,.slice x1 G.edges.length y1,.slice x2 G.ins.length y2,.slice x3 G.outs.length y3]:=(((k85.set 0 _).set 1 _).set 2 _).set 3 _
    have hgo:=(((hg5.mono (B':=w.heap.size+1+1) (by have:=HS0.out;have:=(bd hbwa).size;omega)).setB k85 (by decide) (by decide) 0 (.int .i64 G.wires)).setB (k85.set 0 _) (by decide) (by decide) 1 (.slice x1 G.edges.length y1)).setB ((k85.set 0 _).set 1 _) (by decide) (by decide) 2 (.slice x2 G.ins.length y2)
    have HGO2:=Lib.hid (hgo.setB (((k85.set 0 _).set 1 _).set 2 _) (by decide) (by decide) 3 (.slice x3 G.outs.length y3))
    have hst9:=(HST.out.keep hBW).take
    rw [HL0.out] at hst9
    have HST9:=Lib.hid hst9
    have kR9:=kR1.keep hBW
    clear k85 m0 m1 m2 hg5 hg4 hb4 hw5 hb45 h24 hx hwa hbwa h14 a0 a1 a2 a3 b0 b1 b2 b3 hgo hst9 hb2 k8 bd
    generalize ((((w5.setCell ⟨b8,0,none⟩ (.int .i64 G.wires)).setCell ⟨b8,1,none⟩ (.slice x1 G.edges.length y1)).setCell ⟨b8,2,none⟩ (.slice x2 G.ins.length y2)).setCell ⟨b8,3,none⟩ (.slice x3 G.outs.length y3))=W at *
    obtain ⟨i9,f9,z9⟩:=k9.cell
    have e6:0≤(l0:Int)∧(l0:Int)≤(cap:Int):=by omega
    go_wp2_with fail
    refine (isGraph_any _ _ _ G W HGO2.out.at HOK.out).mono ?_
    rintro e w9 ⟨rfl,hb9⟩
    have hBW9:=hBW.trans (hb9.mono hBW.size)
    have hBW0:=hbel.trans (hBW9.mono hbel.size)
    replace kR9:=kR9.keep hb9
    have hst9:=HST9.out.keep hb9
    have hgo9:=HGO2.out.keep hb9
    replace k9:=k9.keep hb9
    have HWW:=Lib.hid (hB.trans (hBW0.mono hB.size))
    have HW0:=Lib.hid hBW0
    clear i9 f9 z9 hb9 hBW hBW9 hBW0 kR1 hbel hBw
    cases hgB:grB G with
    | false =>
     have HRN:=Lib.hid (show R=none by
      rw [← HGO.out.2]
      exact mkG_none (by rw [HGG2.out,hgB];rfl))
     clear hgB hst9 hgo9 k9
     obtain ⟨iR,fR,zR⟩:=kR9.cell
     go_wp2
     refine bodyPost_ret (v:=.tuple #[.agg #[.int .i64 0,.slice none 0 0,.slice none 0 0,.slice none 0 0],.bool false]) (by simp [results,Tryz.results117,go_sem,iR,fR,zR]) rfl ?_
     rw [HRN.out]
     exact ⟨_,_,_,rfl,⟨EdsO.nil _ _,World.ownsRow_nil _ _ _ _,World.ownsRow_nil _ _ _ _⟩,below_res HWW.out (by omega) _ _ _ _⟩
    | true =>
     have HNX:=Lib.hid (show grGo ns []=grGo (ns.drop (k+1)) (G :: gr) by rw [HGG2.out,if_pos hgB])
     have HMG:=Lib.hid (HMD.out hgB)
     clear hgB
     obtain ⟨i9,f9,z9⟩:=k9.cell
     go_wp2_with (at_builtin;refine Hid.out ?_)
     refine Lib.hid ?_
     have hA6:=alloc_below w9 (.cells #[.int .i64 G.wires,.slice x1 G.edges.length y1,.slice x2 G.ins.length y2,.slice x3 G.outs.length y3] 53)
     refine gk_append rfl (.tmp 60) (.tmp 62) rfl (w.heap.size+1+1) (.slice (some ⟨g,0,none⟩) l0 cap) xs0 rfl (hst9.keep hA6) w9.heap.size (G,.slice x1 G.edges.length y1,.slice x2 G.ins.length y2,.slice x3 G.outs.length y3) rfl (Bk.new _ _ _) (hgo9.keep hA6) (by have:=HW0.out.size;have:=HS0.out;simp;omega) (by have:=HXL.out;have:=HL0.out;simp at *;omega) ?_
     intro v7 w7 r1 r2 r3
     have hb7:Below u0.heap.size u0 w7:=(HW0.out.trans (hA6.mono HW0.out.size)).grown r2 (by have:=HW0.out.size;simp;omega) (fun j hj=>by have:=(World.ownsRow.lt hst9.row j hj).1;have:=HS0.out;omega)
     obtain ⟨a7,c7,hv7e⟩:=r1.shape
     rw [List.length_append,List.length_singleton] at hv7e
     subst hv7e
     have HE:=Lib.hid (And.intro r1 hb7)
     clear r1 r2 r3 hb7 hA6 hst9 hgo9 k9 i9 f9 z9 kR9
     go_wp2
     go_roundw
     case rel=>exact ⟨k+1,HLK.out,by go_num,xs0 ++ [(G,.slice x1 G.edges.length y1,.slice x2 G.ins.length y2,.slice x3 G.outs.length y3)],ty :: tr,HE.out.1,by have:=HXL.out;simp at *;omega,HE.out.2,HTT.out,show MdR _ _ from by simp only [List.map_append,List.reverse_append,List.map_cons,List.map_nil,List.reverse_singleton,List.singleton_append];exact ⟨HMG.out,by rw [HR0.out];exact HMR.out⟩,show _=_ from by rw [HNX.out];simp only [List.map_append,List.reverse_append,List.map_cons,List.map_nil,List.reverse_singleton,List.singleton_append];rw [HR0.out]⟩
     case measure=>simp [intOf];omega
   ·by_cases hk16:n.kind=16
    ·have hjj:∃ b a r y,tys=b :: a :: r∧joinW 16 a b=some y∧typedGo (leafIn []) (ns.drop (k+1)) (y :: r)=some [x]:=by
      unfold typedGo at htt
      rw [if_pos (.inr hk16)] at htt
      split at htt
      ·split at htt
       ·rename_i b a r
        rw [hk16] at htt
        split at htt
        ·rename_i y hy
         exact ⟨b,a,r,y,rfl,hy,htt⟩
        ·cases htt
       ·cases htt
      ·cases htt
     obtain ⟨tb,ta,tr,ty,rfl,hjw,htt2⟩:=hjj
     obtain ⟨gs,hgs⟩:∃ gs,(xs.map Prod.fst).reverse=gs:=⟨_,rfl⟩
     have hmm:=HM.out
     rw [hgs] at hmm hgg
     obtain ⟨gb,ga,gr,rfl⟩:∃ gb ga gr,gs=gb :: ga :: gr:=by
      have:=hmm.len
      match gs,this with
      | [],h=>simp at h
      | [_],h=>simp at h
      | b :: a :: r,_=>exact ⟨b,a,r,rfl⟩
     obtain ⟨mb,ma,mr⟩:=hmm
     obtain ⟨xs0,xa,xb,rfl,rfl,rfl,hr0⟩:=gk_split hgs
     rw [grGo_par hk16] at hgg
     obtain ⟨G,hG⟩:∃ G,prI xa.1 xb.1=G:=⟨_,rfl⟩
     have hmd:=fun hg=>pr_md ma mb hjw hg
     have hokk:=grOk_pr ma.ok mb.ok
     obtain ⟨g,cap,rfl,hcap,hBg,hgz⟩:=hst.blk (by simp)
     obtain ⟨ca,cb⟩:=hst.two
     have hq:=(fun u (hb:Below wr.heap.size wr u)=>parQ xa xb u ((hst.rws xa (by simp)).keep hb).at ((hst.rws xb (by simp)).keep hb).at ma.ok mb.ok)
     rw [hG] at hgg hmd hokk hq
     have HTT:=Lib.hid htt2
     have HGG2:=Lib.hid hgg
     have HMD:=Lib.hid hmd
     have HMR:=Lib.hid mr
     have HR0:=Lib.hid hr0
     have HOK:=Lib.hid hokk
     have HXL:=Lib.hid hxk
     have HQ:=Lib.hid hq
     have HST:=Lib.hid hst
     rw [List.length_append] at hcap hxk ⊢
     simp only [List.length_cons,List.length_nil] at hcap hxk ⊢
     obtain ⟨l0,hl0⟩:∃ l,xs0.length=l:=⟨_,rfl⟩
     rw [hl0] at ca cb hcap hxk ⊢
     have HL0:=Lib.hid hl0
     clear hl0 hst htt2 hgg hjw ma mb mr hr0 hgs HM htt hmd hokk hq hG
     obtain ⟨a0,a1,a2,a3⟩:=ca
     obtain ⟨b0,b1,b2,b3⟩:=cb
     have hw1:IntKind.i64.wrap ((l0:Int)+2 - 1)=(l0:Int)+1:=by rw [IntWalk.i64_in _ (by omega)];omega
     have hw2:IntKind.i64.wrap (l0:Int)=(l0:Int):=IntWalk.i64_in _ (by omega)
     have hlt2:(l0:Int)<(l0:Int)+2:=by omega
     have hlt3:(l0:Int)+1<(l0:Int)+2:=by omega
     go_wp2_with fail
     have hA4:=alloc_below wr (.cells #[.int .i64 16,.int .i64 n.value,.string n.name] 144)
     have hA5:=alloc_below (wr.alloc (.cells #[.int .i64 16,.int .i64 n.value,.string n.name] 144)) (.cells #[.int .i64 0,.slice none 0 0,.slice none 0 0,.slice none 0 0] 53)
     have hb2:=hA4.trans (hA5.mono hA4.size)
     have k8:=Bk.new (wr.alloc (.cells #[.int .i64 16,.int .i64 n.value,.string n.name] 144)) 53 #[.int .i64 0,.slice none 0 0,.slice none 0 0,.slice none 0 0]
     simp only [World.size_alloc] at k8
     clear hA4 hA5
     generalize ((wr.alloc (.cells #[.int .i64 16,.int .i64 n.value,.string n.name] 144)).alloc (.cells #[.int .i64 0,.slice none 0 0,.slice none 0 0,.slice none 0 0] 53))=u2 at *
     replace a0:=cell_keep hb2 a0
     replace a1:=cell_keep hb2 a1
     replace a2:=cell_keep hb2 a2
     replace a3:=cell_keep hb2 a3
     replace b0:=cell_keep hb2 b0
     replace b1:=cell_keep hb2 b1
     replace b2:=cell_keep hb2 b2
     replace b3:=cell_keep hb2 b3
     have hgz2:=cell_lt a0
     have hneg:¬ g=wr.heap.size+1:=by omega
     generalize hbx:wr.heap.size+1=b8 at *
     have HB8:=Lib.hid hbx
     have bd:∀ {u:World},Below u2.drew.heap.size u2.drew u → Below wr.heap.size wr u:=fun h=>hb2.trans (((Below.refl u2.heap.size u2).drew.trans (h.mono (by simp))).mono hb2.size)
     clear hbx n0 n1 n2
     refine region_acts (C:=Exc ((fun j=>j=b8)) _) 4 [0,1,2,3,4,5,6,7,8,9,10] (by kernel_rfl) (by kernel_rfl) (Exc.grows _ _) (Exc.refl _ _) ?_
     iterate 9 (apply x_sT rfl rfl rfl;(focus intro u hc' hf';(try simp only [World.size_drew] at hc' hf');go_simp <;> rfl);intro K hK;go_simp;apply hK;clear hK K)
     refine x_call rfl rfl rfl (Exc.grows _ _) (Exc.refl _ _) 187 (fun K hK=>?_);apply Exists.intro;refine ⟨fun w' hw'=>?_,fun wa hwa hbwa=>?_⟩;(focus go_simp;rfl);refine (HQ.out _ (bd hbwa)).mono ?_;rintro e w4 ⟨x1,y1,x2,y2,x3,y3,rfl,hg4,hb4⟩;refine ⟨_,rfl,hb4,fun hx=>?_⟩;go_simp;apply hK;clear hK K
     have h14:=(bd hbwa).trans (hb4.mono (bd hbwa).size)
     refine x_do rfl rfl rfl (Exc.grows _ _) hx (fun K hK=>?_)
     intro w5 hw5 hb45
     have h24:Below u2.heap.size u2 w5:=(((Below.refl u2.heap.size u2).drew.trans (hbwa.mono (by simp))).trans (hb4.mono (by have:=hbwa.size;simpa using this))).trans (hb45.mono (by have:=hbwa.size;have:=hb4.size;simp at *;omega))
     have k85:=k8.keep h24
     obtain ⟨m0,m1,m2⟩:=k85.cell
     have hg5:=hg4.keep hb45
     refine ⟨(((w5.setCell ⟨b8,0,none⟩ (.int .i64 G.wires)).setCell ⟨b8,1,none⟩ (.slice x1 G.edges.length y1)).setCell ⟨b8,2,none⟩ (.slice x2 G.ins.length y2)).setCell ⟨b8,3,none⟩ (.slice x3 G.outs.length y3),?_,⟨exc_set (exc_set (exc_set (exc_set hw5 (.inr rfl) _) (.inr rfl) _) (.inr rfl) _) (.inr rfl) _,by simp,fun j hj _ _=>by
      have hj2:¬ (j=b8):=by intro hh;have:=k8.lt;simp only [World.size_drew] at hj;omega
      rw [Below.heap_setCell _ _ _ _ (fun h=>hj2 (by simpa using h)),Below.heap_setCell _ _ _ _ (fun h=>hj2 (by simpa using h)),Below.heap_setCell _ _ _ _ (fun h=>hj2 (by simpa using h)),Below.heap_setCell _ _ _ _ (fun h=>hj2 (by simpa using h))]⟩,?_⟩
     ·go_simp
     go_simp
     refine hK _ _ _ ?_
     clear hK K
     refine x_nil ?_
     have hB8:=HB8.out
     have hge:wr.heap.size≤b8:=by omega
     have hBW:Below wr.heap.size wr ((((w5.setCell ⟨b8,0,none⟩ (.int .i64 G.wires)).setCell ⟨b8,1,none⟩ (.slice x1 G.edges.length y1)).setCell ⟨b8,2,none⟩ (.slice x2 G.ins.length y2)).setCell ⟨b8,3,none⟩ (.slice x3 G.outs.length y3)):=below_res (h14.trans (hb45.mono h14.size)) hge _ _ _ _
     have k9:Bk ((((w5.setCell ⟨b8,0,none⟩ (.int .i64 G.wires)).setCell ⟨b8,1,none⟩ (.slice x1 G.edges.length y1)).setCell ⟨b8,2,none⟩ (.slice x2 G.ins.length y2)).setCell ⟨b8,3,none⟩ (.slice x3 G.outs.length y3)) b8 53 #[.int .i64 G.wires,.slice x1 G.edges.length y1,.slice x2 G.ins.length y2,.slice x3 G.outs.length y3]:=(((k85.set 0 _).set 1 _).set 2 _).set 3 _
     have hgo:=(((hg5.mono (B':=w.heap.size+1+1) (by have:=HS0.out;have:=(bd hbwa).size;omega)).setB k85 (by decide) (by decide) 0 (.int .i64 G.wires)).setB (k85.set 0 _) (by decide) (by decide) 1 (.slice x1 G.edges.length y1)).setB ((k85.set 0 _).set 1 _) (by decide) (by decide) 2 (.slice x2 G.ins.length y2)
     have HGO2:=Lib.hid (hgo.setB (((k85.set 0 _).set 1 _).set 2 _) (by decide) (by decide) 3 (.slice x3 G.outs.length y3))
     have hst9:=(HST.out.keep hBW).take
     rw [HL0.out] at hst9
     have HST9:=Lib.hid hst9
     have kR9:=kR1.keep hBW
     clear k85 m0 m1 m2 hg5 hg4 hb4 hw5 hb45 h24 hx hwa hbwa h14 a0 a1 a2 a3 b0 b1 b2 b3 hgo hst9 hb2 k8 bd
     generalize ((((w5.setCell ⟨b8,0,none⟩ (.int .i64 G.wires)).setCell ⟨b8,1,none⟩ (.slice x1 G.edges.length y1)).setCell ⟨b8,2,none⟩ (.slice x2 G.ins.length y2)).setCell ⟨b8,3,none⟩ (.slice x3 G.outs.length y3))=W at *
     obtain ⟨i9,f9,z9⟩:=k9.cell
     have e6:0≤(l0:Int)∧(l0:Int)≤(cap:Int):=by omega
     go_wp2_with fail
     refine (isGraph_any _ _ _ G W HGO2.out.at HOK.out).mono ?_
     rintro e w9 ⟨rfl,hb9⟩
     have hBW9:=hBW.trans (hb9.mono hBW.size)
     have hBW0:=hbel.trans (hBW9.mono hbel.size)
     replace kR9:=kR9.keep hb9
     have hst9:=HST9.out.keep hb9
     have hgo9:=HGO2.out.keep hb9
     replace k9:=k9.keep hb9
     have HWW:=Lib.hid (hB.trans (hBW0.mono hB.size))
     have HW0:=Lib.hid hBW0
     clear i9 f9 z9 hb9 hBW hBW9 hBW0 kR1 hbel hBw
     cases hgB:grB G with
     | false =>
      have HRN:=Lib.hid (show R=none by
       rw [← HGO.out.2]
       exact mkG_none (by rw [HGG2.out,hgB];rfl))
      clear hgB hst9 hgo9 k9
      obtain ⟨iR,fR,zR⟩:=kR9.cell
      go_wp2
      refine bodyPost_ret (v:=.tuple #[.agg #[.int .i64 0,.slice none 0 0,.slice none 0 0,.slice none 0 0],.bool false]) (by simp [results,Tryz.results117,go_sem,iR,fR,zR]) rfl ?_
      rw [HRN.out]
      exact ⟨_,_,_,rfl,⟨EdsO.nil _ _,World.ownsRow_nil _ _ _ _,World.ownsRow_nil _ _ _ _⟩,below_res HWW.out (by omega) _ _ _ _⟩
     | true =>
      have HNX:=Lib.hid (show grGo ns []=grGo (ns.drop (k+1)) (G :: gr) by rw [HGG2.out,if_pos hgB])
      have HMG:=Lib.hid (HMD.out hgB)
      clear hgB
      obtain ⟨i9,f9,z9⟩:=k9.cell
      go_wp2_with (at_builtin;refine Hid.out ?_)
      refine Lib.hid ?_
      have hA6:=alloc_below w9 (.cells #[.int .i64 G.wires,.slice x1 G.edges.length y1,.slice x2 G.ins.length y2,.slice x3 G.outs.length y3] 53)
      refine gk_append rfl (.tmp 60) (.tmp 62) rfl (w.heap.size+1+1) (.slice (some ⟨g,0,none⟩) l0 cap) xs0 rfl (hst9.keep hA6) w9.heap.size (G,.slice x1 G.edges.length y1,.slice x2 G.ins.length y2,.slice x3 G.outs.length y3) rfl (Bk.new _ _ _) (hgo9.keep hA6) (by have:=HW0.out.size;have:=HS0.out;simp;omega) (by have:=HXL.out;have:=HL0.out;simp at *;omega) ?_
      intro v7 w7 r1 r2 r3
      have hb7:Below u0.heap.size u0 w7:=(HW0.out.trans (hA6.mono HW0.out.size)).grown r2 (by have:=HW0.out.size;simp;omega) (fun j hj=>by have:=(World.ownsRow.lt hst9.row j hj).1;have:=HS0.out;omega)
      obtain ⟨a7,c7,hv7e⟩:=r1.shape
      rw [List.length_append,List.length_singleton] at hv7e
      subst hv7e
      have HE:=Lib.hid (And.intro r1 hb7)
      clear r1 r2 r3 hb7 hA6 hst9 hgo9 k9 i9 f9 z9 kR9
      go_wp2
      go_roundw
      case rel=>exact ⟨k+1,HLK.out,by go_num,xs0 ++ [(G,.slice x1 G.edges.length y1,.slice x2 G.ins.length y2,.slice x3 G.outs.length y3)],ty :: tr,HE.out.1,by have:=HXL.out;simp at *;omega,HE.out.2,HTT.out,show MdR _ _ from by simp only [List.map_append,List.reverse_append,List.map_cons,List.map_nil,List.reverse_singleton,List.singleton_append];exact ⟨HMG.out,by rw [HR0.out];exact HMR.out⟩,show _=_ from by rw [HNX.out];simp only [List.map_append,List.reverse_append,List.map_cons,List.map_nil,List.reverse_singleton,List.singleton_append];rw [HR0.out]⟩
      case measure=>simp [intOf];omega
    ·have hkk:¬ (n.kind=15∨n.kind=16):=fun h=>h.elim hk15 hk16
     obtain ⟨ty,hty,htt2⟩:∃ y,leafIn [] n=some y∧typedGo (leafIn []) (ns.drop (k+1)) (y :: tys)=some [x]:=by
      unfold typedGo at htt
      rw [if_neg hkk] at htt
      split at htt
      ·rename_i y hy;exact ⟨y,hy,htt⟩
      ·cases htt
     obtain ⟨hlf,har⟩:=leafIn_nil hty
     rw [grGo_leaf hkk] at hgg
     obtain ⟨hl1,hl2,hl3⟩:=lf_ok hlf
     have hlq:=fun u=>(leafGraph_any n u hlf).mono (R':=GrMq (lfI n) u) fun _ _ h=>h.mq
     obtain ⟨G,hG⟩:∃ G,lfI n=G:=⟨_,rfl⟩
     rw [hG] at hgg hl1 hl2 hl3 hlq
     have HLQ:=Lib.hid hlq
     have HGG2:=Lib.hid hgg
     have HTT:=Lib.hid htt2
     have HMD:=Lib.hid (fun (_:grB G=true)=>show MdG G ty from ⟨hl1,by rw [hl2,har],by rw [hl3,har]⟩)
     have HOK:=Lib.hid (grOk_b hl1)
     have HMR:=HM
     obtain ⟨xs0,hxs⟩:∃ y,y=xs:=⟨_,rfl⟩
     rw [← hxs] at hst HMR HGG2 hxk
     obtain ⟨gr,hgr⟩:∃ gr,(xs0.map Prod.fst).reverse=gr:=⟨_,rfl⟩
     rw [hgr] at HMR HGG2
     have HR0:=Lib.hid hgr
     have HXL:=Lib.hid hxk
     have HL0:Hid (xs0.length=xs0.length):=rfl
     obtain ⟨tr,htr⟩:∃ t,t=tys:=⟨_,rfl⟩
     rw [← htr] at HTT HMR
     obtain ⟨sa,sc,rfl⟩:=hst.shape
     have hst0:=Lib.hid hst
     have hnk1:¬ n.kind=15:=hk15
     have hnk2:¬ n.kind=16:=hk16
     clear hst hgr hxs htr hG hlq hl1 hl2 hl3 har hlf hty htt htt2 hgg HM hkk
     go_wp2_with fail
     have hA4:=alloc_below wr (.cells #[.int .i64 n.kind,.int .i64 n.value,.string n.name] 144)
     have hA5:=alloc_below (wr.alloc (.cells #[.int .i64 n.kind,.int .i64 n.value,.string n.name] 144)) (.cells #[.int .i64 0,.slice none 0 0,.slice none 0 0,.slice none 0 0] 53)
     have hb2:=hA4.trans (hA5.mono hA4.size)
     have k8:=Bk.new (wr.alloc (.cells #[.int .i64 n.kind,.int .i64 n.value,.string n.name] 144)) 53 #[.int .i64 0,.slice none 0 0,.slice none 0 0,.slice none 0 0]
     simp only [World.size_alloc] at k8
     clear hA4 hA5
     generalize ((wr.alloc (.cells #[.int .i64 n.kind,.int .i64 n.value,.string n.name] 144)).alloc (.cells #[.int .i64 0,.slice none 0 0,.slice none 0 0,.slice none 0 0] 53))=u2 at *
     generalize hbx:wr.heap.size+1=b8 at *
     have HB8:=Lib.hid hbx
     clear hbx n0 n1 n2
     refine (HLQ.out u2).mono ?_
     rintro e w5 ⟨x1,y1,x2,y2,x3,y3,rfl,hg5,hb5⟩
     have k85:=k8.keep hb5
     have hB8:=HB8.out
     have hge:wr.heap.size≤b8:=by omega
     have hB5:=hb2.trans (hb5.mono hb2.size)
     have hBW:Below wr.heap.size wr ((((w5.setCell ⟨b8,0,none⟩ (.int .i64 G.wires)).setCell ⟨b8,1,none⟩ (.slice x1 G.edges.length y1)).setCell ⟨b8,2,none⟩ (.slice x2 G.ins.length y2)).setCell ⟨b8,3,none⟩ (.slice x3 G.outs.length y3)):=below_res hB5 hge _ _ _ _
     have k9:Bk ((((w5.setCell ⟨b8,0,none⟩ (.int .i64 G.wires)).setCell ⟨b8,1,none⟩ (.slice x1 G.edges.length y1)).setCell ⟨b8,2,none⟩ (.slice x2 G.ins.length y2)).setCell ⟨b8,3,none⟩ (.slice x3 G.outs.length y3)) b8 53 #[.int .i64 G.wires,.slice x1 G.edges.length y1,.slice x2 G.ins.length y2,.slice x3 G.outs.length y3]:=(((k85.set 0 _).set 1 _).set 2 _).set 3 _
     have hgo:=(((hg5.mono (B':=w.heap.size+1+1) (by have:=HS0.out;have:=hb2.size;omega)).setB k85 (by decide) (by decide) 0 (.int .i64 G.wires)).setB (k85.set 0 _) (by decide) (by decide) 1 (.slice x1 G.edges.length y1)).setB ((k85.set 0 _).set 1 _) (by decide) (by decide) 2 (.slice x2 G.ins.length y2)
     have HGO2:=Lib.hid (hgo.setB (((k85.set 0 _).set 1 _).set 2 _) (by decide) (by decide) 3 (.slice x3 G.outs.length y3))
     have HST9:=Lib.hid (hst0.out.keep hBW)
     have kR9:=kR1.keep hBW
     obtain ⟨i8,f8,z8⟩:=k85.cell
     clear hg5 hb5 hb2 k8 k85 hgo
     go_wp2_with fail
     generalize ((((w5.setCell ⟨b8,0,none⟩ (.int .i64 G.wires)).setCell ⟨b8,1,none⟩ (.slice x1 G.edges.length y1)).setCell ⟨b8,2,none⟩ (.slice x2 G.ins.length y2)).setCell ⟨b8,3,none⟩ (.slice x3 G.outs.length y3))=W at *
     clear i8 f8 z8 hB5
     have i9:=0
     have f9:=0
     have z9:=0
     refine (isGraph_any _ _ _ G W HGO2.out.at HOK.out).mono ?_
     rintro e w9 ⟨rfl,hb9⟩
     have hBW9:=hBW.trans (hb9.mono hBW.size)
     have hBW0:=hbel.trans (hBW9.mono hbel.size)
     replace kR9:=kR9.keep hb9
     have hst9:=HST9.out.keep hb9
     have hgo9:=HGO2.out.keep hb9
     replace k9:=k9.keep hb9
     have HWW:=Lib.hid (hB.trans (hBW0.mono hB.size))
     have HW0:=Lib.hid hBW0
     clear i9 f9 z9 hb9 hBW hBW9 hBW0 kR1 hbel hBw
     cases hgB:grB G with
     | false =>
      have HRN:=Lib.hid (show R=none by
       rw [← HGO.out.2]
       exact mkG_none (by rw [HGG2.out,hgB];rfl))
      clear hgB hst9 hgo9 k9
      obtain ⟨iR,fR,zR⟩:=kR9.cell
      go_wp2
      refine bodyPost_ret (v:=.tuple #[.agg #[.int .i64 0,.slice none 0 0,.slice none 0 0,.slice none 0 0],.bool false]) (by simp [results,Tryz.results117,go_sem,iR,fR,zR]) rfl ?_
      rw [HRN.out]
      exact ⟨_,_,_,rfl,⟨EdsO.nil _ _,World.ownsRow_nil _ _ _ _,World.ownsRow_nil _ _ _ _⟩,below_res HWW.out (by omega) _ _ _ _⟩
     | true =>
      have HNX:=Lib.hid (show grGo ns []=grGo (ns.drop (k+1)) (G :: gr) by rw [HGG2.out,if_pos hgB])
      have HMG:=Lib.hid (HMD.out hgB)
      clear hgB
      obtain ⟨i9,f9,z9⟩:=k9.cell
      go_wp2_with (at_builtin;refine Hid.out ?_)
      refine Lib.hid ?_
      have hA6:=alloc_below w9 (.cells #[.int .i64 G.wires,.slice x1 G.edges.length y1,.slice x2 G.ins.length y2,.slice x3 G.outs.length y3] 53)
      refine gk_append rfl (.tmp 60) (.tmp 62) rfl (w.heap.size+1+1) (.slice sa xs0.length sc) xs0 rfl (hst9.keep hA6) w9.heap.size (G,.slice x1 G.edges.length y1,.slice x2 G.ins.length y2,.slice x3 G.outs.length y3) rfl (Bk.new _ _ _) (hgo9.keep hA6) (by have:=HW0.out.size;have:=HS0.out;simp;omega) (by have:=HXL.out;have:=HL0.out;simp at *;omega) ?_
      intro v7 w7 r1 r2 r3
      have hb7:Below u0.heap.size u0 w7:=(HW0.out.trans (hA6.mono HW0.out.size)).grown r2 (by have:=HW0.out.size;simp;omega) (fun j hj=>by have:=(World.ownsRow.lt hst9.row j hj).1;have:=HS0.out;omega)
      obtain ⟨a7,c7,hv7e⟩:=r1.shape
      rw [List.length_append,List.length_singleton] at hv7e
      subst hv7e
      have HE:=Lib.hid (And.intro r1 hb7)
      clear r1 r2 r3 hb7 hA6 hst9 hgo9 k9 i9 f9 z9 kR9
      go_wp2
      go_roundw
      case rel=>exact ⟨k+1,HLK.out,by go_num,xs0 ++ [(G,.slice x1 G.edges.length y1,.slice x2 G.ins.length y2,.slice x3 G.outs.length y3)],ty :: tr,HE.out.1,by have:=HXL.out;simp at *;omega,HE.out.2,HTT.out,show MdR _ _ from by simp only [List.map_append,List.reverse_append,List.map_cons,List.map_nil,List.reverse_singleton,List.singleton_append];exact ⟨HMG.out,by rw [HR0.out];exact HMR.out⟩,show _=_ from by rw [HNX.out];simp only [List.map_append,List.reverse_append,List.map_cons,List.map_nil,List.reverse_singleton,List.singleton_append];rw [HR0.out]⟩
      case measure=>simp [intOf];omega
  ·obtain rfl:k=ns.length:=by omega
   have htt:=HT.out
   have hgg:=HGG.out
   have hmm:=HM.out
   rw [List.drop_length] at htt hgg
   simp only [typedGo,Option.some.injEq] at htt
   subst htt
   obtain ⟨gs,hgs⟩:∃ gs,(xs.map Prod.fst).reverse=gs:=⟨_,rfl⟩
   rw [hgs] at hmm hgg
   obtain ⟨g0,rfl⟩:∃ g0,gs=[g0]:=by
    have:=hmm.len
    match gs,this with
    | [],h=>simp at h
    | [g],_=>exact ⟨g,rfl⟩
    | _ :: _ :: _,h=>simp at h
   obtain ⟨y,rfl,hy⟩:∃ y,xs=[y]∧y.1=g0:=by
    rw [← List.map_reverse] at hgs
    have h2:=congrArg List.length hgs
    simp only [List.length_map,List.length_reverse,List.length_singleton] at h2
    match xs,h2 with
    | [y],_=>exact ⟨y,rfl,by simpa using hgs⟩
   have HRS:=Lib.hid (show R=some g0 by
    rw [← HGO.out.2]
    exact mkG_some (by rw [hgg];rfl))
   obtain ⟨g,cap,rfl,hcap,hBg,hgz⟩:=hst.blk (by simp)
   obtain ⟨a0,a1,a2,a3⟩:=hst.cells 0 (by simp)
   simp only [List.getElem_cons_zero,Nat.zero_mul,Nat.zero_add] at a0 a1 a2 a3
   have hgo:=hst.rws y (by simp)
   obtain ⟨G,ve,vi,vo⟩:=y
   obtain rfl:G=g0:=hy
   dsimp only at a0 a1 a2 a3 hgo
   obtain ⟨⟨x1,y1,rfl⟩,⟨x2,y2,rfl⟩,x3,y3,rfl⟩:=hgo.at.slices
   have hBw:=hB.trans (hbel.mono hB.size)
   have kR1:=kR.keep hbel
   obtain ⟨iR,fR,zR⟩:=kR1.cell
   have HG:=Lib.hid hgo
   have hne:¬ g=w.heap.size+1:=by omega
   clear hst hgo hgs hmm hgg HT HM HGG hbel
   simp only [List.length_singleton] at hcap ⊢
   go_wp2
   refine bodyPost_ret (v:=.tuple #[.agg #[.int .i64 G.wires,.slice x1 G.edges.length y1,.slice x2 G.ins.length y2,.slice x3 G.outs.length y3],.bool true]) (by simp [results,Tryz.results117,go_sem,iR,fR,zR]) rfl ?_
   rw [HRS.out]
   exact ⟨_,_,_,rfl,(HG.out.res (by omega) _ _ _ _).mono (by omega),below_res hBw (by omega) _ _ _ _⟩
end Go.Proofs.YtbljmfcifljkaaaGreatDoor

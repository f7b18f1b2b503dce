/-
  The reference's tmMirror: the parts of a term, its mirror image. Own work.
-/
import Derived.Test.YtbljmfcifljkaaaGreatDoorYAF
import Derived.Test.YtbljmfcifljkaaaGreatDoorYS
set_option linter.all false
set_option maxRecDepth 100000
set_option maxHeartbeats 8000000
namespace Go.Proofs.YtbljmfcifljkaaaGreatDoor
open Go.RowKit
set_option maxRecDepth 100000
set_option maxHeartbeats 4000000
theorem fr_join2 {ns:List Nd} {X:List (Nat × W2)} (hX:X.length=ns.length) (hf:FrOk ns X) (a b:Tr) (h:a.LK∧b.LK) (j:Nd) (hj:j.kind=15∨j.kind=16) (o:Nat) (r:List Nd) (hd:ns.drop o=(a.nodes ++ b.nodes ++ [j]) ++ r)
  (ha:∀ (o:Nat) (r:List Nd),ns.drop o=a.nodes ++ r → ∃ x,X[o+a.nodes.length - 1]?=some (o,x)) (hb:∀ (o:Nat) (r:List Nd),ns.drop o=b.nodes ++ r → ∃ x,X[o+b.nodes.length - 1]?=some (o,x)) :
  ∃ x,X[o+(a.nodes ++ b.nodes ++ [j]).length - 1]?=some (o,x):=by
 have pa:=nodes_pos a
 have pb:=nodes_pos b
 obtain ⟨xa,h1⟩:=ha o (b.nodes ++ [j] ++ r) (by rw [hd];simp)
 obtain ⟨xb,h2⟩:=hb (o+a.nodes.length) ([j] ++ r) (by rw [← List.drop_drop,hd];simp)
 have hn:ns[o+a.nodes.length+b.nodes.length]?=some j:=by
  have:=congrArg (fun l=>l[a.nodes.length+b.nodes.length]?) hd
  simp only [List.getElem?_drop] at this
  rw [show o+a.nodes.length+b.nodes.length=o+(a.nodes.length+b.nodes.length) by omega,this]
  simp [List.getElem?_append_right,List.getElem?_append_left]
 have ho:=(List.getElem?_eq_some_iff.1 hn).1
 obtain ⟨n',h3,h4⟩:=hf _ X[o+a.nodes.length+b.nodes.length] (List.getElem?_eq_getElem (by omega))
 rw [hn] at h3
 obtain rfl:=Option.some.inj h3
 rcases h4 with ⟨h5,_⟩|⟨_,f,g,tb,ta,h6,_,h7,h8⟩
 ·exact absurd hj h5
 ·rw [h2] at h6
  simp only [Option.some.injEq,Prod.mk.injEq] at h6
  rw [← h6.1,h1] at h7
  simp only [Option.some.injEq,Prod.mk.injEq] at h7
  refine ⟨X[o+a.nodes.length+b.nodes.length].2,?_⟩
  have e:o+(a.nodes ++ b.nodes ++ [j]).length - 1=o+a.nodes.length+b.nodes.length:=by simp;omega
  rw [e,List.getElem?_eq_getElem (by omega)]
  congr 1
  refine Prod.ext ?_ rfl
  rw [h8,← h7.1]
theorem fr_tree {ns:List Nd} {X:List (Nat × W2)} (hX:X.length=ns.length) (hf:FrOk ns X):∀ (t:Tr),t.LK → ∀ (o:Nat) (r:List Nd),ns.drop o=t.nodes ++ r → ∃ x,X[o+t.nodes.length - 1]?=some (o,x)
 | .leaf n,h,o,r,hd=>by
  rw [Tr.nodes] at hd ⊢
  have hn:ns[o]?=some n:=by have:=congrArg (fun l=>l[0]?) hd;simpa [List.getElem?_drop] using this
  have ho:=(List.getElem?_eq_some_iff.1 hn).1
  obtain ⟨n',h1,h2⟩:=hf o X[o] (List.getElem?_eq_getElem (by omega))
  rw [hn] at h1
  obtain rfl:=Option.some.inj h1
  rcases h2 with ⟨_,h3⟩|⟨h3,_⟩
  ·refine ⟨X[o].2,?_⟩
   simp only [List.length_singleton,Nat.add_sub_cancel]
   rw [List.getElem?_eq_getElem (by omega)]
   congr 1
   exact Prod.ext h3 rfl
  ·exact absurd h3 h
 | .seq a b,h,o,r,hd=>fr_join2 hX hf a b h ⟨15,0,⟨#[]⟩⟩ (.inl rfl) o r (by rw [Tr.nodes] at hd;exact hd) (fr_tree hX hf a h.1) (fr_tree hX hf b h.2)
 | .par a b,h,o,r,hd=>fr_join2 hX hf a b h ⟨16,0,⟨#[]⟩⟩ (.inr rfl) o r (by rw [Tr.nodes] at hd;exact hd) (fr_tree hX hf a h.1) (fr_tree hX hf b h.2)
theorem dfs_nil' (w:World):DfsAt w (.slice none 0 0) []:=⟨none,0,rfl,Nat.le_refl _,fun i hi=>by simp at hi⟩
def ScJ (n f:Nat) (w:World) (e:Ending) (w':World):Prop:=∃ (g c0:Nat) (a1:Option Addr) (n1 c1:Nat) (a2:Option Addr) (n2 c2:Nat),e=.returned (.tuple #[.agg #[.slice (some ⟨g,0,none⟩) n c0,.slice a1 n1 c1,.slice a2 n2 c2],.bool true])∧w'.cell? ⟨g,n - 2,none⟩=some (.int .i64 (f:Int))∧w.heap.size≤g∧Below w.heap.size w w'
theorem lbScanJ_any (v:Value) (a b:Tr) (j:Nd) (t:W2) (w:World) (hv:NdsAt w v (a.nodes ++ b.nodes ++ [j])) (hok:NdsOk (a.nodes ++ b.nodes ++ [j])) (ha:a.LK) (hb:b.LK) (ht:typedL (leafIn []) (a.nodes ++ b.nodes ++ [j])=some t) :
  Calls Tryz.prog 278 #[.slice none 0 0,.agg #[v]] w (ScJ (a.nodes ++ b.nodes ++ [j]).length a.nodes.length w):=by
 refine (lbScanF_any (.slice none 0 0) [] v _ w (dfs_nil' w) (by simp) (by simp) hv hok).mono ?_
 rintro e w' ⟨a0,n0,c0,a1,n1,c1,a2,n2,c2,rfl,hbb,hX⟩
 obtain ⟨X,hXl,_,r0,_,_,hfr⟩:=hX t ht
 have pa:=nodes_pos a
 have pb:=nodes_pos b
 obtain ⟨x,hx⟩:=fr_tree hXl hfr b hb a.nodes.length [j] (by rw [List.append_assoc,List.drop_append_of_le_length (Nat.le_refl _),List.drop_length,List.nil_append])
 have hXp:0<(X.map fun p=>(p.1:Int)).length:=by rw [List.length_map,hXl];simp only [List.length_append];omega
 obtain ⟨g,cp,he,_,_,hg,_⟩:=owns_some r0 hXp
 simp only [Value.slice.injEq,List.length_map] at he
 obtain ⟨rfl,rfl,rfl⟩:=he
 obtain ⟨q1,e1⟩:=getE hx (fun p:Nat × W2=>(p.1:Int))
 have f1:=r0.cell _ q1
 rw [e1] at f1
 have hn2:(a.nodes ++ b.nodes ++ [j]).length - 2=a.nodes.length+b.nodes.length - 1:=by simp;omega
 rw [ht]
 rw [hXl]
 exact ⟨g,_,a1,n1,c1,a2,n2,c2,rfl,by rw [hn2];exact f1,hg,hbb⟩
theorem tmScanJ_any (v:Value) (a b:Tr) (j:Nd) (t:W2) (w:World) (hv:NdsAt w v (a.nodes ++ b.nodes ++ [j])) (hok:NdsOk (a.nodes ++ b.nodes ++ [j])) (ha:a.LK) (hb:b.LK) (ht:typedL (leafIn []) (a.nodes ++ b.nodes ++ [j])=some t) :
  Calls Tryz.prog 222 #[.agg #[v]] w (ScJ (a.nodes ++ b.nodes ++ [j]).length a.nodes.length w):=by
 obtain ⟨ns,hns⟩:∃ ns,ns=a.nodes ++ b.nodes ++ [j]:=⟨_,rfl⟩
 have hsc:=fun (w1:World) (h1:NdsAt w1 v ns)=>lbScanJ_any v a b j t w1 (hns ▸ h1) hok ha hb ht
 rw [← hns] at hv hsc ⊢
 have HSC:=Lib.hid hsc
 clear hsc ht hok hns ha hb
 obtain ⟨av,cap,rfl⟩:=hv.slice
 have hB:Below w.heap.size w ((w.alloc (.cells #[.slice av ns.length cap] 30)).alloc (.cells #[.slice none 0 0,.slice none 0 0,.slice none 0 0] 283)):=((Below.refl _ _).alloc (Nat.le_refl _) _).alloc (by simp) _
 go_enter Tryz.func222,Tryz.ntmps222
 go_wp2_with (go_at_call 278;refine (HSC.out _ (hv.keep hB)).mono ?_;rintro e w2 ⟨g,c0,a1,n1,c1,a2,n2,c2,rfl,hc2,hg2,hb2⟩;have hs2:=hb2.size;simp only [World.size_alloc] at hs2 hg2;have q0:=hb2.cell (p:=⟨w.heap.size+1,0,none⟩) (by simp);have q1:=hb2.cell (p:=⟨w.heap.size+1,1,none⟩) (by simp);have q3:=hb2.cell (p:=⟨w.heap.size+1,2,none⟩) (by simp);have q4:∀ k,w2.frozen? ⟨w.heap.size+1,k,none⟩=_:=fun k=>hb2.frozen (p:=⟨w.heap.size+1,k,none⟩) (by simp);simp [go_sem] at q0 q1 q3 q4;have hz2:w.heap.size+1<w2.heap.size:=(by omega))
 refine bodyPost_ret (v:=.tuple #[.agg #[.slice (some ⟨g,0,none⟩) ns.length c0,.slice a1 n1 c1,.slice a2 n2 c2],.bool true]) (by simp [results,Tryz.results222,go_sem,q0,q1,q3,hz2]) rfl ⟨g,c0,a1,n1,c1,a2,n2,c2,rfl,?_,by omega,?_⟩
 ·have:¬ g=w.heap.size+1:=by omega
  go_simp
 ·exact ((((hB.trans (hb2.mono (by simp;omega))).setCell (by simp) _).setCell (by simp) _).setCell (by simp) _)
theorem nds_take {w:World} {a:Option Addr} {n cap:Nat} {xs ys:List Nd} (h:NdsAt w (.slice a n cap) (xs ++ ys)):NdsAt w (.slice a xs.length cap) xs:=by
 obtain ⟨a',cap',he,hc,hat⟩:=h
 simp only [Value.slice.injEq] at he
 obtain ⟨rfl,_,rfl⟩:=he
 refine ⟨_,_,rfl,by simp at hc;omega,fun i hi=>?_⟩
 obtain ⟨b,o,h1,hl,h2⟩:=hat i (by simp;omega)
 exact ⟨b,o,h1,hi,by rw [List.getElem_append_left hi] at h2;exact h2⟩
theorem nds_from {w:World} {b o n cap:Nat} {xs ys:List Nd} (h:NdsAt w (.slice (some ⟨b,o,none⟩) n cap) (xs ++ ys)):NdsAt w (.slice (some ⟨b,o+xs.length * 3,none⟩) ys.length (cap - xs.length)) ys:=by
 obtain ⟨a',cap',he,hc,hat⟩:=h
 simp only [Value.slice.injEq] at he
 obtain ⟨rfl,_,rfl⟩:=he
 refine ⟨_,_,rfl,by simp at hc;omega,fun i hi=>?_⟩
 obtain ⟨b',o',h1,hl,h2⟩:=hat (xs.length+i) (by simp;omega)
 simp only [Option.some.injEq,Addr.mk.injEq] at h1
 obtain ⟨rfl,rfl,_⟩:=h1
 refine ⟨_,_,rfl,hi,?_⟩
 rw [List.getElem_append_right (by omega)] at h2
 simp only [Nat.add_sub_cancel_left] at h2
 rw [show o+xs.length * 3+i * 3=o+(xs.length+i) * 3 by omega]
 exact h2
theorem Exc.low {T:Nat → Prop} {B:Nat} {w w':World} (h:Exc T w w') (hT:∀ j,T j → B≤j) (hB:B≤w.heap.size):Below B w w':=⟨h.os,h.tape,h.output,h.size,fun k hk=>h.block k (by omega) (fun ht=>by have:=hT k ht;omega)⟩
def TmPP (A B:List Nd) (w:World) (e:Ending) (w':World):Prop:=∃ va vb,e=.returned (.tuple #[.agg #[va],.agg #[vb]])∧NdsOwn w' w.heap.size va A∧NdsOwn w' w.heap.size vb B∧Below w.heap.size w w'
theorem tmParts_any (v:Value) (a b:Tr) (j:Nd) (t:W2) (w:World) (hv:NdsAt w v (a.nodes ++ b.nodes ++ [j])) (hok:NdsOk (a.nodes ++ b.nodes ++ [j])) (ha:a.LK) (hb:b.LK) (ht:typedL (leafIn []) (a.nodes ++ b.nodes ++ [j])=some t) :
  Calls Tryz.prog 160 #[.agg #[v]] w (TmPP a.nodes b.nodes w):=by
 have hlen:=typedL_len ht
 have hsc:=fun (w1:World) (h1:NdsAt w1 v (a.nodes ++ b.nodes ++ [j]))=>tmScanJ_any v a b j t w1 h1 hok ha hb ht
 have pa:=nodes_pos a
 have pb:=nodes_pos b
 clear ht hok ha hb
 obtain ⟨A,hA⟩:∃ A,A=a.nodes:=⟨_,rfl⟩
 obtain ⟨B,hB⟩:∃ B,B=b.nodes:=⟨_,rfl⟩
 rw [← hA] at hv hlen hsc pa ⊢
 rw [← hB] at hv hlen hsc pb ⊢
 clear hA hB
 obtain ⟨n,hn⟩:∃ n,n=(A ++ B ++ [j]).length:=⟨_,rfl⟩
 have hnl:n=A.length+B.length+1:=by rw [hn];simp only [List.length_append,List.length_singleton]
 have hn1:A.length+B.length+1≤n:=by omega
 have hn2:n≤A.length+B.length+1:=by omega
 clear hnl
 obtain ⟨av,cap,rfl⟩:=hv.slice
 rw [← hn] at hv hsc hlen ⊢
 have HSC:=Lib.hid hsc
 clear hsc hn
 obtain ⟨bv,ov,rfl⟩:∃ bv ov,av=some ⟨bv,ov,none⟩:=by
  obtain ⟨a',cap',he,hc,hat⟩:=hv
  obtain ⟨b',o',h1,_⟩:=hat 0 (by simp only [List.length_append,List.length_singleton];omega)
  simp only [Value.slice.injEq] at he
  exact ⟨b',o',he.1.trans h1⟩
 have hcap:n≤cap:=by
  obtain ⟨a',cap',he,hc,hat⟩:=hv
  simp only [Value.slice.injEq] at he
  simp only [List.length_append,List.length_singleton] at hc
  omega
 have hvA:NdsAt w (.slice (some ⟨bv,ov,none⟩) A.length cap) A:=by rw [List.append_assoc] at hv;exact nds_take hv
 have hvB:NdsAt w (.slice (some ⟨bv,ov+A.length * 3,none⟩) B.length (cap - A.length)) B:=by rw [List.append_assoc] at hv;exact nds_take (nds_from hv)
 have hbw0:Below w.heap.size w (((w.alloc (.cells #[.slice (some ⟨bv,ov,none⟩) n cap] 30)).alloc (.cells #[.slice none 0 0] 30)).alloc (.cells #[.slice none 0 0] 30)):=(((Below.refl _ _).alloc (Nat.le_refl _) _).alloc (by simp) _).alloc (by simp;omega) _
 go_enter Tryz.func160,Tryz.ntmps160
 go_wp2_with fail
 refine (HSC.out _ (hv.keep hbw0)).mono ?_
 rintro e w2 ⟨g,c0,a1,n1,c1,a2,n2,c2,rfl,hc2,hg2,hb2⟩
 have hs2:=hb2.size
 simp only [World.size_alloc] at hs2 hg2
 have q0:=hb2.cell (p:=⟨w.heap.size,0,none⟩) (by simp;omega)
 have q1:=hb2.cell (p:=⟨w.heap.size+1,0,none⟩) (by simp)
 have q2:=hb2.cell (p:=⟨w.heap.size+1+1,0,none⟩) (by simp)
 have q4:=hb2.frozen (p:=⟨w.heap.size+1,0,none⟩) (by simp)
 have q5:=hb2.frozen (p:=⟨w.heap.size+1+1,0,none⟩) (by simp)
 simp [go_sem] at q0 q1 q2 q4 q5
 have hz0:w.heap.size<w2.heap.size:=by omega
 have hz1:w.heap.size+1<w2.heap.size:=by omega
 have hz2:w.heap.size+1+1<w2.heap.size:=by omega
 have hbw2:=hbw0.trans (hb2.mono (by simp;omega))
 have gz:=cell_lt hc2
 have i1:IntKind.i64.wrap ((n:Int) - 1)=(n:Int) - 1:=IntWalk.i64_in _ (by omega)
 have i2:IntKind.i64.wrap ((n:Int) - 1 - 1)=(n:Int) - 1 - 1:=IntWalk.i64_in _ (by omega)
 have i3:0≤(n:Int) - 1 - 1:=by omega
 have i4:(n:Int) - 1 - 1<n:=by omega
 have i5:((n:Int) - 1 - 1).toNat=n - 2:=by omega
 have i6:¬ (n:Int) - 1 - 1<0:=by omega
 go_wp2_with fail
 have hbw3:=hbw2.alloc hbw2.size (.cells #[.slice (some ⟨g,0,none⟩) n c0,.slice a1 n1 c1,.slice a2 n2 c2] 283)
 have up:∀ {w':World},Exc (fun j=>j=w.heap.size+1∨j=w.heap.size+1+1) (w2.alloc (.cells #[.slice (some ⟨g,0,none⟩) n c0,.slice a1 n1 c1,.slice a2 n2 c2] 283)).drew w' → Below w.heap.size w w':=fun h=>hbw3.drew.trans (h.low (fun j hj=>by omega) (by simp;omega))
 have k1:w.heap.size<w2.heap.size+1:=by omega
 have k2:¬ w.heap.size=w.heap.size+1+1:=by omega
 have l1:¬ cap=A.length:=by omega
 have l2:n - 1 - A.length=B.length:=by omega
 have j1:0≤(A.length:Int):=by omega
 have j2:(A.length:Int)≤cap:=by omega
 have j3:(A.length:Int)≤(n:Int) - 1:=by omega
 have j4:(n:Int) - 1≤cap:=by omega
 refine region_acts (C:=Exc ((fun j=>j=w.heap.size+1∨j=w.heap.size+1+1)) _) 2 [0,1,2,3,4,5,6,7,8,9,10,11,12] (by kernel_rfl) (by kernel_rfl) (Exc.grows _ _) (Exc.refl _ _) ?_
 iterate 4 (apply x_sT rfl rfl rfl;(focus intro u hc' hf';(try simp only [World.size_drew] at hc' hf');go_simp <;> rfl);intro K hK;go_simp;apply hK;clear hK K)
 refine x_call rfl rfl rfl (Exc.grows _ _) (Exc.refl _ _) 39 (fun K hK=>?_);apply Exists.intro;refine ⟨fun w' hw'=>?_,fun wa hwa hbwa=>?_⟩;(focus go_simp;rfl);refine (tmOwn_any _ A _ (hvA.keep (up hwa)) (by omega)).mono ?_;rintro e w3 ⟨va,rfl,hoa,hb3⟩;refine ⟨_,rfl,hb3,fun hx=>?_⟩;go_simp;apply hK;clear hK K
 obtain ⟨aa,ca,rfl⟩:=hoa.slice
 iterate 5 (apply x_sT rfl rfl rfl;(focus intro u hc' hf';(try simp only [World.size_drew] at hc' hf');go_simp <;> rfl);intro K hK;go_simp;apply hK;clear hK K)
 refine x_call rfl rfl rfl (Exc.grows _ _) (hx) 39 (fun K hK=>?_);apply Exists.intro;refine ⟨fun w' hw'=>?_,fun wb hwb hbwb=>?_⟩;(focus go_simp;rfl);refine (tmOwn_any _ B _ (hvB.keep (up hwb)) (by omega)).mono ?_;rintro e w4 ⟨vb,rfl,hob,hb4⟩;refine ⟨_,rfl,hb4,fun hx=>?_⟩;go_simp;apply hK;clear hK K
 obtain ⟨ab,cb,rfl⟩:=hob.slice
 have hoa4:=(hoa.keep hbwb).keep hb4
 have hzz:=(up hx).size
 have hzw:=(up hwa).size
 have hzb:=(up hwb).size
 refine x_do rfl rfl rfl (Exc.grows _ _) hx (fun K hK=>?_)
 intro w5 hw5 hb5
 have hoa5:=hoa4.keep hb5
 have hob5:=hob.keep hb5
 have e5:=(up hw5).size
 have g1:=hbwa.size
 have g2:=hb3.size
 have g3:=hbwb.size
 have g4:=hb4.size
 simp only [World.size_drew,World.size_alloc] at g1
 have hb05:Below w2.heap.size w2 w5:=((((((Below.refl _ _).alloc (Nat.le_refl _) _).drew.trans (hbwa.mono (by simp))).trans (hb3.mono (by omega))).trans (hbwb.mono (by omega))).trans (hb4.mono (by omega))).trans (hb5.mono (by omega))
 replace q1:=(hb05.cell (p:=⟨w.heap.size+1,0,none⟩) hz1).trans q1
 replace q4:=(hb05.frozen (p:=⟨w.heap.size+1,0,none⟩) hz1).trans q4
 replace q2:=(hb05.cell (p:=⟨w.heap.size+1+1,0,none⟩) hz2).trans q2
 replace q5:=(hb05.frozen (p:=⟨w.heap.size+1+1,0,none⟩) hz2).trans q5
 have z5:=hb05.size
 have zz1:w.heap.size+1<w5.heap.size:=by omega
 have zz2:w.heap.size+1+1<w5.heap.size:=by omega
 have o1:=(hoa5.mono (B':=w.heap.size+1+1+1) (by omega)).setLow (a:=⟨w.heap.size+1,0,none⟩) (by show _<_;simp) (.slice aa A.length ca)
 have o2:=(hob5.mono (B':=w.heap.size+1+1+1) (by omega)).setLow (a:=⟨w.heap.size+1,0,none⟩) (by show _<_;simp) (.slice aa A.length ca)
 have hlw:Below w.heap.size w (w5.setCell ⟨w.heap.size+1,0,none⟩ (.slice aa A.length ca)):=(up hw5).setCell (by simp) _
 have hex:Exc (fun j=>j=w.heap.size+1∨j=w.heap.size+1+1) (w2.alloc (.cells #[.slice (some ⟨g,0,none⟩) n c0,.slice a1 n1 c1,.slice a2 n2 c2] 283)).drew (w5.setCell ⟨w.heap.size+1,0,none⟩ (.slice aa A.length ca)):=exc_set hw5 (.inr (.inl rfl)) _
 refine ⟨w5.setCell ⟨w.heap.size+1,0,none⟩ (.slice aa A.length ca),?_,⟨hex,by simp,fun j hj _ _=>by rw [Below.heap_setCell _ _ _ _ (by show ¬ _=_;intro hh;simp only [World.size_drew,World.size_alloc] at hj hh;omega)]⟩,?_⟩
 ·go_simp
 go_simp
 refine hK _ _ _ ?_
 clear hK K
 obtain ⟨W6,hW6⟩:∃ W6,W6=w5.setCell ⟨w.heap.size+1,0,none⟩ (.slice aa A.length ca):=⟨_,rfl⟩
 have p1:W6.cell? ⟨w.heap.size+1,0,none⟩=some (.slice aa A.length ca):=by rw [hW6];go_simp
 have p2:W6.cell? ⟨w.heap.size+1+1,0,none⟩=some (.slice none 0 0):=by rw [hW6];go_simp
 have p5:W6.frozen? ⟨w.heap.size+1+1,0,none⟩=false:=by rw [hW6];go_simp
 have p6:w.heap.size+1+1<W6.heap.size:=by rw [hW6];simpa using zz2
 rw [← hW6] at o1 o2 hlw hex ⊢
 clear hW6 q1 q2 q4 q5 zz1 zz2 hoa hob hoa4 hoa5 hob5 hw5 hb5 hb05
 refine x_do rfl rfl rfl (Exc.grows _ _) hex (fun K hK=>?_)
 intro w7 hw7 hb7
 have hz7:=hb7.size
 replace p1:=cell_keep hb7 p1
 replace p5:=(hb7.frozen (p:=⟨w.heap.size+1+1,0,none⟩) p6).trans p5
 replace p2:=cell_keep hb7 p2
 replace p6:w.heap.size+1+1<w7.heap.size:=by omega
 replace o1:=(o1.keep hb7).setLow (a:=⟨w.heap.size+1+1,0,none⟩) (by show _<_;simp) (.slice ab B.length cb)
 replace o2:=(o2.keep hb7).setLow (a:=⟨w.heap.size+1+1,0,none⟩) (by show _<_;simp) (.slice ab B.length cb)
 have hlw7:Below w.heap.size w (w7.setCell ⟨w.heap.size+1+1,0,none⟩ (.slice ab B.length cb)):=(up hw7).setCell (by simp;omega) _
 refine ⟨w7.setCell ⟨w.heap.size+1+1,0,none⟩ (.slice ab B.length cb),?_,⟨exc_set hw7 (.inr (.inr rfl)) _,by simp,fun j hj _ _=>by rw [Below.heap_setCell _ _ _ _ (by show ¬ _=_;intro hh;simp only [World.size_drew,World.size_alloc] at hj hh;omega)]⟩,?_⟩
 ·go_simp
 go_simp
 refine hK _ _ _ ?_
 clear hK K
 have r1:(w7.setCell ⟨w.heap.size+1+1,0,none⟩ (.slice ab B.length cb)).cell? ⟨w.heap.size+1,0,none⟩=some (.slice aa A.length ca):=by go_simp
 have r2:(w7.setCell ⟨w.heap.size+1+1,0,none⟩ (.slice ab B.length cb)).cell? ⟨w.heap.size+1+1,0,none⟩=some (.slice ab B.length cb):=by go_simp
 refine x_nil ?_
 go_wp2
 exact bodyPost_ret (v:=.tuple #[.agg #[.slice aa A.length ca],.agg #[.slice ab B.length cb]]) (by simp [results,Tryz.results160,go_sem,r1,r2]) rfl ⟨_,_,rfl,o1.mono (by omega),o2.mono (by omega),hlw7⟩
end Go.Proofs.YtbljmfcifljkaaaGreatDoor
/-
  The reference's tmMirror at the axioms' trees. Own work.
-/
namespace Go.Proofs.YtbljmfcifljkaaaGreatDoor
open Go.RowKit
set_option maxRecDepth 100000
set_option maxHeartbeats 4000000
theorem AxTr.seqs {a b:Tr} (h:AxTr (.seq a b)):AxTr a∧AxTr b:=by
 obtain ⟨x,hx⟩:=h.ty
 have hl:=h.len
 simp only [Tr.nodes,List.length_append,List.length_singleton] at hl
 simp only [Tr.ty] at hx
 split at hx
 ·rename_i p q h1 h2
  exact ⟨⟨h.lk.1,⟨_,h1⟩,by omega⟩,⟨h.lk.2,⟨_,h2⟩,by omega⟩⟩
 ·cases hx
theorem AxTr.pars {a b:Tr} (h:AxTr (.par a b)):AxTr a∧AxTr b:=by
 obtain ⟨x,hx⟩:=h.ty
 have hl:=h.len
 simp only [Tr.nodes,List.length_append,List.length_singleton] at hl
 simp only [Tr.ty] at hx
 split at hx
 ·rename_i p q h1 h2
  exact ⟨⟨h.lk.1,⟨_,h1⟩,by omega⟩,⟨h.lk.2,⟨_,h2⟩,by omega⟩⟩
 ·cases hx
theorem AxTr.typed {t:Tr} (h:AxTr t):(∃ x,typedL (leafIn []) t.nodes=some x)∧NdsOk t.nodes:=by
 obtain ⟨x,hx⟩:=h.ty
 have hl:=h.len
 exact ⟨⟨x,typedL_nodes h.lk hx (by omega)⟩,names_ty t x hx,by omega⟩
end Go.Proofs.YtbljmfcifljkaaaGreatDoor

import Derived.Test.YtkhpobekconobaaGreatHBN
set_option linter.all false
set_option maxRecDepth 100000
set_option maxHeartbeats 0
namespace Go.Proofs.YtkhpobekconobaaGreat
open Go.RowKit
theorem aut (W:Int) (g1 g4 g7 m1 m4 la ra:Option Addr) (g2 g3 g5 g6 g8 g9 m2 m3 m5 m6 rb ro n c i ln lc rn rc:Nat) (nm:ByteArray) (w:World) (hi:i<n) (hn:n<=1000)
  (h0:w.cell? ⟨rb,ro+i*3,none⟩=some (.string nm)) (h1:w.cell? ⟨rb,ro+i*3+1,none⟩=some (.slice la ln lc)) (h2:w.cell? ⟨rb,ro+i*3+2,none⟩=some (.slice ra rn rc)) :
  Calls Tryz.prog 95 #[.agg #[.int .i64 (W:Int),.slice g1 g2 g3,.slice g4 g5 g6,.slice g7 g8 g9,.slice (some ⟨rb,ro,none⟩) n c],.agg #[.int .i64 (i:Int),.bool false,.slice m1 m2 m3,.slice m4 m5 m6]] w λe w' =>
   e=.returned (.tuple #[.agg #[.string nm,.slice la ln lc,.slice ra rn rc],.bool true])/\Below w.heap.size w w':=by
 have hb1:=aH w (.cells #[.int .i64 (W:Int),.slice g1 g2 g3,.slice g4 g5 g6,.slice g7 g8 g9,.slice (some ⟨rb,ro,none⟩) n c] 69);have hb2:=hb1.trans ((aH (w.alloc (.cells #[.int .i64 (W:Int),.slice g1 g2 g3,.slice g4 g5 g6,.slice g7 g8 g9,.slice (some ⟨rb,ro,none⟩) n c] 69)) (.cells #[.int .i64 (i:Int),.bool false,.slice m1 m2 m3,.slice m4 m5 m6] 79)).mono hb1.size);have hb3:=hb2.trans ((aH ((w.alloc (.cells #[.int .i64 (W:Int),.slice g1 g2 g3,.slice g4 g5 g6,.slice g7 g8 g9,.slice (some ⟨rb,ro,none⟩) n c] 69)).alloc (.cells #[.int .i64 (i:Int),.bool false,.slice m1 m2 m3,.slice m4 m5 m6] 79)) (.cells #[.string ⟨#[]⟩,.slice none 0 0,.slice none 0 0] 66)).mono hb2.size);have d0:=aK hb3 h0;have d1:=aK hb3 h1;have d2:=aK hb3 h2;have dz:=cell_lt d0;have kD:=((Bk.new w 69 #[.int .i64 (W:Int),.slice g1 g2 g3,.slice g4 g5 g6,.slice g7 g8 g9,.slice (some ⟨rb,ro,none⟩) n c]).alloc (.cells #[.int .i64 (i:Int),.bool false,.slice m1 m2 m3,.slice m4 m5 m6] 79)).alloc (.cells #[.string ⟨#[]⟩,.slice none 0 0,.slice none 0 0] 66);have kM:=(Bk.new (w.alloc (.cells #[.int .i64 (W:Int),.slice g1 g2 g3,.slice g4 g5 g6,.slice g7 g8 g9,.slice (some ⟨rb,ro,none⟩) n c] 69)) 79 #[.int .i64 (i:Int),.bool false,.slice m1 m2 m3,.slice m4 m5 m6]).alloc (.cells #[.string ⟨#[]⟩,.slice none 0 0,.slice none 0 0] 66);have kZ:=Bk.new ((w.alloc (.cells #[.int .i64 (W:Int),.slice g1 g2 g3,.slice g4 g5 g6,.slice g7 g8 g9,.slice (some ⟨rb,ro,none⟩) n c] 69)).alloc (.cells #[.int .i64 (i:Int),.bool false,.slice m1 m2 m3,.slice m4 m5 m6] 79)) 66 #[.string ⟨#[]⟩,.slice none 0 0,.slice none 0 0];simp only[Zn]at kM kZ;have Jt:0<=(i:Int)/\(i:Int)<=(n:Int)-1:=by omega
 have bV:(i:Int)<(n:Int):=by omega
 clear hb1 hb2 h0 h1 h2;go_enter Tryz.func95,Tryz.ntmps95;go_wp2_with fail
 refine(rG _ _ _ _).mono ?_;rintro e w1⟨rfl,rfl⟩;rw[show inB (i:Int) 0 ((n:Int)-1)=true by unfold inB;simp;omega];generalize((w.alloc (.cells #[.int .i64 (W:Int),.slice g1 g2 g3,.slice g4 g5 g6,.slice g7 g8 g9,.slice (some ⟨rb,ro,none⟩) n c] 69)).alloc (.cells #[.int .i64 (i:Int),.bool false,.slice m1 m2 m3,.slice m4 m5 m6] 79)).alloc (.cells #[.string ⟨#[]⟩,.slice none 0 0,.slice none 0 0] 66)=u1 at *;obtain⟨D0,-,ez⟩:=kD.cell;have e4:=D0 4;obtain⟨M0,-,mz⟩:=kM.cell;have m0:=M0 0;have m1':=M0 1;obtain⟨Z0,Zf,zz⟩:=kZ.cell;have z0:=Z0 0;have z1:=Z0 1;have z2:=Z0 2;have f0:=Zf 0;have f1:=Zf 1;have f2:=Zf 2;simp only[Ze,Zc,Zd]at e4 m0 m1' z0 z1 z2;have HB:=Za hb3;clear D0 M0 Z0 Zf kD kM kZ hb3;go_wp2;refine Zt (v:=.tuple #[.agg #[.string nm,.slice la ln lc,.slice ra rn rc],.bool true]) (by simp[results,Tryz.results95,go_sem,f0,f1,f2,z0,z1,z2,zz]) rfl ⟨rfl,?_⟩;exact((HB.out.setCell (by simp only;omega) _).setCell (by simp only;omega) _).setCell (by simp only;omega) _
open Go.Maps
theorem auu (nm:ByteArray) (la ra:Option Addr) (ln lc rn rc:Nat) (g q r:aF) (m:aX) (W V R:Nat) (rb ro n c i:Nat) (h:zU g q r m) (Ib:Bj g) (Fj:Bj q) (hW:g.aB=W) (hV:q.aB=V) (hR:r.aB=R) (vg gi go vx vy:Value) (w:World) (hG:dM w vg gi go g) (hx:aU w vx m.aB) (hy:aU w vy m.ah)
  (hi:i<n) (hn:n<=1000) (h0:w.cell? ⟨rb,ro+i*3,none⟩=some (.string nm)) (h1:w.cell? ⟨rb,ro+i*3+1,none⟩=some (.slice la ln lc)) (h2:w.cell? ⟨rb,ro+i*3+2,none⟩=some (.slice ra rn rc))
  (hp:∀u,Below w.heap.size w u->Calls Tryz.prog 63 #[.agg #[.string nm,.slice la ln lc,.slice ra rn rc]] u (nZ q u)) (Ic:∀u,Below w.heap.size w u->Calls Tryz.prog 89 #[.agg #[.string nm,.slice la ln lc,.slice ra rn rc]] u (nZ r u)) :
  Calls Tryz.prog 64 #[.agg #[.int .i64 (W:Int),vg,gi,go,.slice (some ⟨rb,ro,none⟩) n c],.agg #[.int .i64 (i:Int),.bool false,vx,vy]] w (AtP (uK g q r m) w):=by
 obtain⟨⟨ga,gc,rfl⟩,⟨ia,ic,rfl⟩,oa,oc,rfl⟩:=hG.slices;obtain⟨xa,xc,rfl⟩:=hx.slice;obtain⟨ya,yc,rfl⟩:=hy.slice;have hb1:=aH w (.cells #[.int .i64 (W:Int),.slice ga g.ah.length gc,.slice ia g.aj.length ic,.slice oa g.ay.length oc,.slice (some ⟨rb,ro,none⟩) n c] 69);have hb2:=hb1.trans ((aH (w.alloc (.cells #[.int .i64 (W:Int),.slice ga g.ah.length gc,.slice ia g.aj.length ic,.slice oa g.ay.length oc,.slice (some ⟨rb,ro,none⟩) n c] 69)) (.cells #[.int .i64 (i:Int),.bool false,.slice xa m.aB.length xc,.slice ya m.ah.length yc] 79)).mono hb1.size);have hB:=hb2.trans ((aH ((w.alloc (.cells #[.int .i64 (W:Int),.slice ga g.ah.length gc,.slice ia g.aj.length ic,.slice oa g.ay.length oc,.slice (some ⟨rb,ro,none⟩) n c] 69)).alloc (.cells #[.int .i64 (i:Int),.bool false,.slice xa m.aB.length xc,.slice ya m.ah.length yc] 79)) (.cells #[.int .i64 0,.slice none 0 0,.slice none 0 0,.slice none 0 0,.slice none 0 0,.slice none 0 0,.slice none 0 0,.slice none 0 0] 108)).mono hb2.size);have kG:=((Bk.new w 69 #[.int .i64 (W:Int),.slice ga g.ah.length gc,.slice ia g.aj.length ic,.slice oa g.ay.length oc,.slice (some ⟨rb,ro,none⟩) n c]).alloc (.cells #[.int .i64 (i:Int),.bool false,.slice xa m.aB.length xc,.slice ya m.ah.length yc] 79)).alloc (.cells #[.int .i64 0,.slice none 0 0,.slice none 0 0,.slice none 0 0,.slice none 0 0,.slice none 0 0,.slice none 0 0,.slice none 0 0] 108);have kM:=(Bk.new (w.alloc (.cells #[.int .i64 (W:Int),.slice ga g.ah.length gc,.slice ia g.aj.length ic,.slice oa g.ay.length oc,.slice (some ⟨rb,ro,none⟩) n c] 69)) 79 #[.int .i64 (i:Int),.bool false,.slice xa m.aB.length xc,.slice ya m.ah.length yc]).alloc (.cells #[.int .i64 0,.slice none 0 0,.slice none 0 0,.slice none 0 0,.slice none 0 0,.slice none 0 0,.slice none 0 0,.slice none 0 0] 108);have kR:=Bk.new ((w.alloc (.cells #[.int .i64 (W:Int),.slice ga g.ah.length gc,.slice ia g.aj.length ic,.slice oa g.ay.length oc,.slice (some ⟨rb,ro,none⟩) n c] 69)).alloc (.cells #[.int .i64 (i:Int),.bool false,.slice xa m.aB.length xc,.slice ya m.ah.length yc] 79)) 108 #[.int .i64 0,.slice none 0 0,.slice none 0 0,.slice none 0 0,.slice none 0 0,.slice none 0 0,.slice none 0 0,.slice none 0 0];have hz3:(((w.alloc (.cells #[.int .i64 (W:Int),.slice ga g.ah.length gc,.slice ia g.aj.length ic,.slice oa g.ay.length oc,.slice (some ⟨rb,ro,none⟩) n c] 69)).alloc (.cells #[.int .i64 (i:Int),.bool false,.slice xa m.aB.length xc,.slice ya m.ah.length yc] 79)).alloc (.cells #[.int .i64 0,.slice none 0 0,.slice none 0 0,.slice none 0 0,.slice none 0 0,.slice none 0 0,.slice none 0 0,.slice none 0 0] 108)).heap.size=w.heap.size+3:=by simp
 simp only[Zn]at kM kR;have Jq:=Za (λ(u:World) (hu:Below w.heap.size w u)=>aus nm la ra ln lc rn rc g q r m W V R h Ib Fj hW hV hR _ _ _ _ _ u (hG.keep hu) (hx.keep hu) (hy.keep hu) (λu' xY=>hp u' (hu.trans (xY.mono hu.size))) (λu' xY=>Ic u' (hu.trans (xY.mono hu.size))));have Nu:=Za (λ(u:World) (hu:Below w.heap.size w u)=>aut (W:Int) ga ia oa xa ya la ra g.ah.length gc g.aj.length ic g.ay.length oc m.aB.length xc m.ah.length yc rb ro n c i ln lc rn rc nm u hi hn (aK hu h0) (aK hu h1) (aK hu h2));clear hb1 hb2 hG hx hy hp Ic h Ib Fj h0 h1 h2;generalize uK g q r m=G at *;go_enter Tryz.func64,Tryz.ntmps64;go_wp2_with fail
 generalize(((w.alloc (.cells #[.int .i64 (W:Int),.slice ga g.ah.length gc,.slice ia g.aj.length ic,.slice oa g.ay.length oc,.slice (some ⟨rb,ro,none⟩) n c] 69)).alloc (.cells #[.int .i64 (i:Int),.bool false,.slice xa m.aB.length xc,.slice ya m.ah.length yc] 79)).alloc (.cells #[.int .i64 0,.slice none 0 0,.slice none 0 0,.slice none 0 0,.slice none 0 0,.slice none 0 0,.slice none 0 0,.slice none 0 0] 108))=u0 at *;refine(Nu.out u0 hB).mono ?_;rintro e u1⟨rfl,hb1⟩;have aS:=hB.trans (hb1.mono hB.size);have gG:=kG.keep hb1;have gI:=kM.keep hb1;have d0:=gG.cell.1 0;have d1:=gG.cell.1 1;have d2:=gG.cell.1 2;have d3:=gG.cell.1 3;have dz:=gG.lt;have v2:=gI.cell.1 2;have v3:=gI.cell.1 3;have vz:=gI.lt;simp only[Ze,Zc,Zd]at d0 d1 d2 d3 v2 v3;have hA:=aH u1 (.cells #[.string nm,.slice la ln lc,.slice ra rn rc] 66);have aZ:=aS.trans (hA.mono aS.size);have oV:=(kR.keep hb1).keep hA;clear gG gI kG kM;dsimp only;go_wp2_with (go_at_call 96;go_loud (refine(Jq.out _ aZ).mono ?_;rintro e w2⟨k,a1,a2,a3,a4,a5,a6,a7,n1,n2,n3,n4,n5,n6,n7,c1,c2,c3,c4,c5,c6,c7,rfl,hgr,hb2⟩;have Ry:=oV.keep hb2;obtain⟨m0',m1',m2'⟩:=Ry.cell;have IE:=Za (Zb hgr hb2);clear hgr))
 have agx:=oV.keep hb2;have HF3:=Za (Zb (λh=>let⟨h1,h2,h3,h4,h5⟩:=IE.out.1 h;(show k=G.aB/\n1=G.ah.length/\n2=G.aj.length/\n3=G.ay.length/\dB (w2.setCells (w.heap.size+1+1) 0 [.int .i64 k,.slice a1 n1 c1,.slice a2 n2 c2,.slice a3 n3 c3,.slice a4 n4 c4,.slice a5 n5 c5,.slice a6 n6 c6,.slice a7 n7 c7]) w.heap.size (.slice a1 n1 c1) (.slice a2 n2 c2) (.slice a3 n3 c3) G from⟨h1,h2,h3,h4,dB.mono aZ.size (dB.sets (by decide) (by decide) [.int .i64 k,.slice a1 n1 c1,.slice a2 n2 c2,.slice a3 n3 c3,.slice a4 n4 c4,.slice a5 n5 c5,.slice a6 n6 c6,.slice a7 n7 c7] 0 _ _ h5 agx)⟩)) (Ia (T:=dD) (b:=w.heap.size+1+1) (.inl (by omega)) [.int .i64 k,.slice a1 n1 c1,.slice a2 n2 c2,.slice a3 n3 c3,.slice a4 n4 c4,.slice a5 n5 c5,.slice a6 n6 c6,.slice a7 n7 c7] 0 _ ((aC.refl dD w).below (aZ.trans (hb2.mono aZ.size)))).toBelow);have KF:Bk (w2.setCells (w.heap.size+1+1) 0 [.int .i64 k,.slice a1 n1 c1,.slice a2 n2 c2,.slice a3 n3 c3,.slice a4 n4 c4,.slice a5 n5 c5,.slice a6 n6 c6,.slice a7 n7 c7]) (w.heap.size+1+1) 108 ([.int .i64 k,.slice a1 n1 c1,.slice a2 n2 c2,.slice a3 n3 c3,.slice a4 n4 c4,.slice a5 n5 c5,.slice a6 n6 c6,.slice a7 n7 c7]:List Value).toArray:=Ov agx rfl;change bodyPost _ _ _ _ _ (w2.setCells (w.heap.size+1+1) 0 [.int .i64 k,.slice a1 n1 c1,.slice a2 n2 c2,.slice a3 n3 c3,.slice a4 n4 c4,.slice a5 n5 c5,.slice a6 n6 c6,.slice a7 n7 c7]);obtain⟨iR,-,-⟩:=KF.cell;clear agx IE hb2;generalize w2.setCells (w.heap.size+1+1) 0 [.int .i64 k,.slice a1 n1 c1,.slice a2 n2 c2,.slice a3 n3 c3,.slice a4 n4 c4,.slice a5 n5 c5,.slice a6 n6 c6,.slice a7 n7 c7]=w3 at *;refine Zt (v:=.tuple #[.agg #[.int .i64 k,.slice a1 n1 c1,.slice a2 n2 c2,.slice a3 n3 c3,.slice a4 n4 c4,.slice a5 n5 c5,.slice a6 n6 c6,.slice a7 n7 c7],.bool (aY G)]) (by simp[results,Tryz.results64,go_sem,iR]) rfl ?_;exact⟨k,a1,a2,a3,a4,a5,a6,a7,n1,n2,n3,n4,n5,n6,n7,c1,c2,c3,c4,c5,c6,c7,rfl,HF3.out.1,HF3.out.2⟩
theorem auv (rs:List dP) (v:Value) (w:World) (hR:qQ w v rs) (hz:∀r∈rs,uj r) (hn:rs.length<=1048576) :
  Calls Tryz.prog 61 #[v] w (nH (Ak rs) w):=by
 obtain⟨ra,rc,rfl,hrc,Hy⟩:=hR;have HAT:=Za Hy;have HZ:=Za hz;have xW:=@run_makeMap Tryz.prog;clear Hy hz;go_enter Tryz.func61,Tryz.ntmps61;have hno:inB rs.length 1 20=false->Ak rs=false:=λh=>by unfold Ak;rw[h,Vj,Vj]
 cases bV:inB rs.length 1 20 with
 | false =>
  have HF:=Za (hno bV);go_wp2_with (go_at_call 70;refine(rG _ _ _ _).mono ?_;rintro e w2⟨rfl,rfl⟩;rw[bV])
  go_ret;exact⟨by rw[HF.out];rfl,Zl _ _⟩
 | true =>
 have awJ:rs.length<=20:=by unfold inB at bV;simp at bV;omega
 have lK:=Za bV;clear hno;go_wp2_with (go_at_call 70;refine(rG _ _ _ _).mono ?_;rintro e w2⟨rfl,rfl⟩;rw[bV])
 clear bV;have U_:=World.ownsMap_made w Tryz.prog 9 (plainElem (H:=Unit) Tryz.prog 4);have amx:Oq (w.alloc (.map #[] 0)) w.heap.size 0 []:=⟨_,U_,atA⟩
 have hB0:=aH w (.map #[] 0);clear U_;generalize(w.alloc (.map #[] 0))=u0 at *;go_loopw [13] (λi wr=>∃k:Nat,k<=rs.length/\i=.int .i64 k/\Ef rs k/\Oq wr w.heap.size k ((rs.take k).map dP.name)/\Below w.heap.size w wr) (λi _=>rs.length-(intOf i).toNat)
 case atStart=>exact⟨0,Zw _,rfl,⟨λi hi h=>by omega,λi j hi hj h1 h2=>by omega⟩,by simpa using amx,hB0⟩
 case round =>
 clear amx hB0;obtain⟨k,hk,rfl,Jr,Ez,hB⟩:=hrel;by_cases hlt:k<rs.length
 ·obtain⟨b,o,rfl,hir,sO⟩:=HAT.out k hlt;have Jo:=HZ.out _ (Zp hlt);have HBAD:=Za (Ef.bad (rs:=rs) (k:=k) hlt);have xB:=Za (Jr.next hlt);have PY:=Za (λi (hi:i<rs.length) (hik:i<k)=>Ef.same (rs:=rs) hi hlt hik);have Bq:=Za (show(rs.take (k+1)).map dP.name=(rs.take k).map dP.name++[rs[k].name]from by rw[Zv hlt,ZK];rfl);have P_:=Za (show Js ((rs.take k).map dP.name) rs[k].name=true↔∃i,∃hi:i<rs.length,i<k/\rs[i].name=rs[k].name from by
   rw[atz,ZM];constructor
   ·rintro⟨r,hr,he⟩;obtain⟨i,hi,rfl⟩:=Wt.1 hr;exact⟨i,by omega,by omega,he⟩
   ·rintro⟨i,hi,hik,he⟩;exact⟨rs[i],Wt.2 ⟨i,by omega,rfl⟩,he⟩)
  generalize rs[k]=r at *;obtain⟨z1,vl,U4,z2,z3,lD,xI⟩:=sO;obtain⟨al,cl,rfl⟩:=lD.slice;obtain⟨ar,cr,rfl⟩:=xI.slice;have y1:=aK hB z1;have y2:=aK hB z2;have y3:=aK hB z3;have yz:=cell_lt y1;have HIR:=Za (λ(u:World) (hu:Below w.heap.size w u)=>asK r _ _ u Jo (lD.keep hu) (xI.keep hu));have HPA:=Za (λ(x:W2) (hx:bP (bI []) r.left=some x) (u:World) (hu:Below w.heap.size w u)=>alK r.name al ar r.left.length cl r.right.length cr r.left x u (lD.keep hu) hx);have Eh:=Za (λ(x:W2) (hx:bP (bI []) r.right=some x) (u:World) (hu:Below w.heap.size w u)=>alL r.name al ar r.left.length cl r.right.length cr r.right x u (xI.keep hu) hx);have aQ:=aH wr (.cells (#[.string r.name,.slice al r.left.length cl,.slice ar r.right.length cr]) 66);have kL:=Bk.new wr 66 (#[.string r.name,.slice al r.left.length cl,.slice ar r.right.length cr]);have V9:=Ez.keep aQ;have aS:=hB.trans (aQ.mono hB.size);have lu:=Jo.nm;have HGK:=Za Jr;clear z1 z2 z3 lD xI Jr Ez;go_wp2_with fail
  generalize(wr.alloc (.cells (#[.string r.name,.slice al r.left.length cl,.slice ar r.right.length cr]) 66))=u1 at *;generalize wr.heap.size=bl at *;have l0:=kL.cell.1 0;have l1:=kL.cell.1 1;have l2:=kL.cell.1 2;have lz:=kL.lt;simp only[Ze,Zc,Zd]at l0 l1 l2;clear y1 y2 y3 yz aQ hB;cases hrt:Hg r with
  | false =>
   have HF:=Za (HBAD.out (by unfold Aj;rw[hrt];rfl));go_wp2_with (go_at_call 88;refine(HIR.out u1 aS).mono ?_;rintro e w3⟨rfl,hb3⟩;rw[hrt])
   go_ret;exact⟨by rw[HF.out];rfl,aS.trans (hb3.mono aS.size)⟩
  | true =>
  have hsome:(∃x,bP (bI []) r.left=some x)/\∃y,bP (bI []) r.right=some y:=by
   constructor
   ·cases h:bP (bI []) r.left with
    | none=>rw[abq (.inl h)]at hrt;cases hrt
    | some x=>exact⟨x,rfl⟩
   ·cases h:bP (bI []) r.right with
    | none=>rw[abq (.inr h)]at hrt;cases hrt
    | some x=>exact⟨x,rfl⟩
  obtain⟨⟨x,hx⟩,y,hy⟩:=hsome;have agy:=Za (λ(u:World) (hu:Below w.heap.size w u)=>(show Calls Tryz.prog 63 #[.agg #[.string r.name,.slice al r.left.length cl,.slice ar r.right.length cr]] u (nZ (uh r) u)from HPA.out x hx u hu));have amy:=Za (λ(u:World) (hu:Below w.heap.size w u)=>(show Calls Tryz.prog 89 #[.agg #[.string r.name,.slice al r.left.length cl,.slice ar r.right.length cr]] u (nZ (xE r) u)from Eh.out y hy u hu));have hfd:∀(w1:World) (a:Int) (b c d:Option Addr) (e f g h i j:Nat),(Instr.field 33 (.agg #[.int .i64 a,.slice b e f,.slice c g h,.slice d i j]) 1).run Tryz.prog w1=.ok (.slice b e f) w1:=λ_ _ _ _ _ _ _ _ _ _ _=>by kernel_rfl
  clear hx hy HPA Eh;cases sV:Js ((rs.take k).map dP.name) r.name with
  | true =>
   obtain⟨i,hi,hik,he⟩:=P_.out.1 sV;have HF:=Za (PY.out i hi hik he);go_wp2_with (go_at_call 88;refine(HIR.out u1 aS).mono ?_;rintro e w3⟨rfl,hb3⟩;rw[hrt];have hlk:=(V9.keep hb3).look r.name lu;rw[sV]at hlk;replace l0:=aK hb3 l0;replace lz:=cell_lt l0)
   go_ret;exact⟨by rw[HF.out];rfl,aS.trans (hb3.mono aS.size)⟩
  | false =>
  have HDI:=Za (show ∀i,(hi:i<rs.length)->i<k->rs[i].name≠r.name from λi hi hik he=>by
   have:=P_.out.2 ⟨i,hi,hik,he⟩;rw[sV]at this;cases this)
  obtain⟨en,hen⟩:∃n,(uh r).ah.length=n:=⟨_,rfl⟩
  obtain⟨em,hem⟩:∃n,(xE r).ah.length=n:=⟨_,rfl⟩
  have Og:=Za (show Aj r=(decide (en<=12)&&decide (em<=12))from by unfold Aj;rw[hrt,hen,hem];rfl);by_cases H9:en<=12
  ·have adu:¬(12:Int)<(en:Int):=by omega
   by_cases q_:em<=12
   ·have agi:¬(12:Int)<(em:Int):=by omega
    have HNK:=Za (xB.out (by rw[Og.out,Yn H9,Yn q_];rfl) HDI.out);clear H9 q_;go_wp2_with (first|(go_at_call 88;go_loud (refine(HIR.out u1 aS).mono ?_;rintro e w3⟨rfl,hb3⟩;rw[hrt];have hlk:=(V9.keep hb3).look r.name lu;rw[sV]at hlk;replace l0:=aK hb3 l0;replace l1:=aK hb3 l1;replace l2:=aK hb3 l2;replace lz:=cell_lt l0;have fU:=aS.trans (hb3.mono aS.size)))|(go_at_call 63;go_loud (refine(agy.out w3 fU).mono ?_;rintro e w4⟨qe,qi,qo,rfl,IW,hb4⟩;obtain⟨⟨a1,c1,rfl⟩,⟨a2,c2,rfl⟩,a3,c3,rfl⟩:=IW.slices;replace l0:=aK hb4 l0;replace l1:=aK hb4 l1;replace l2:=aK hb4 l2;replace lz:=cell_lt l0;have dZ:=fU.trans (hb4.mono fU.size);clear IW))|(go_at_call 89;go_loud (refine(amy.out w4 dZ).mono ?_;rintro e w5⟨pe,pi,po,rfl,hq5,bH⟩;obtain⟨⟨a4,c4,rfl⟩,⟨a5,c5,rfl⟩,a6,c6,rfl⟩:=hq5.slices;replace l0:=aK bH l0;replace lz:=cell_lt l0;have iV:=dZ.trans (bH.mono dZ.size);clear hq5))|(at_mapUpdate;refine Y7 ?_))
    refine Za ?_;have auw:=((V9.keep hb3).keep hb4).keep bH;obtain⟨D,hown,Jt⟩:=auw;refine wpList_mapUpdate_own _ rfl _ _ _ 144 rfl 9 4 alI Tryz.underlying144 _ w.heap.size k D rfl hown (by unfold maxLen;omega) _ _ _ rfl rfl (WideMaps.keyOf_string_mk Tryz.underlying9 (s:=r.name) (by unfold maxLen;omega)) _ [] (plainElem_bool Tryz.underlying4 true) ?_;intro w9 aav amA;have Fg:=Za (show Oq w9 w.heap.size (k+1) ((rs.take (k+1)).map dP.name)from by rw[Bq.out];exact⟨_,aav,atB Jt hown.isMap⟩);have Gn:=Za (iV.grown amA iV.size (λj hj=>by have:=Zy hj;omega));clear hown Jt aav amA V9 l0 l1 l2 lz;go_wp2;go_roundw
    case rel=>exact⟨k+1,by omega,by go_num,HNK.out,Fg.out,Gn.out⟩
    case measure=>simp[intOf];omega
   ·have agi:(12:Int)<(em:Int):=by omega
    have HF:=Za (HBAD.out (by rw[Og.out,YH q_,Vj]));clear H9 q_;go_wp2_with (first|(go_at_call 88;go_loud (refine(HIR.out u1 aS).mono ?_;rintro e w3⟨rfl,hb3⟩;rw[hrt];have hlk:=(V9.keep hb3).look r.name lu;rw[sV]at hlk;replace l0:=aK hb3 l0;replace l1:=aK hb3 l1;replace l2:=aK hb3 l2;replace lz:=cell_lt l0;have fU:=aS.trans (hb3.mono aS.size)))|(go_at_call 63;go_loud (refine(agy.out w3 fU).mono ?_;rintro e w4⟨qe,qi,qo,rfl,IW,hb4⟩;obtain⟨⟨a1,c1,rfl⟩,⟨a2,c2,rfl⟩,a3,c3,rfl⟩:=IW.slices;replace l0:=aK hb4 l0;replace l1:=aK hb4 l1;replace l2:=aK hb4 l2;replace lz:=cell_lt l0;have dZ:=fU.trans (hb4.mono fU.size);clear IW))|(go_at_call 89;go_loud (refine(amy.out w4 dZ).mono ?_;rintro e w5⟨pe,pi,po,rfl,hq5,bH⟩;obtain⟨⟨a4,c4,rfl⟩,⟨a5,c5,rfl⟩,a6,c6,rfl⟩:=hq5.slices;replace l0:=aK bH l0;replace lz:=cell_lt l0;have iV:=dZ.trans (bH.mono dZ.size);clear hq5)))
    go_ret;exact⟨by rw[HF.out];rfl,iV⟩
  ·have adu:(12:Int)<(en:Int):=by omega
   have HF:=Za (HBAD.out (by rw[Og.out,YH H9,Bool.false_and]));clear H9;go_wp2_with (first|(go_at_call 88;go_loud (refine(HIR.out u1 aS).mono ?_;rintro e w3⟨rfl,hb3⟩;rw[hrt];have hlk:=(V9.keep hb3).look r.name lu;rw[sV]at hlk;replace l0:=aK hb3 l0;replace l1:=aK hb3 l1;replace l2:=aK hb3 l2;replace lz:=cell_lt l0;have fU:=aS.trans (hb3.mono aS.size)))|(go_at_call 63;go_loud (refine(agy.out w3 fU).mono ?_;rintro e w4⟨qe,qi,qo,rfl,IW,hb4⟩;obtain⟨⟨a1,c1,rfl⟩,⟨a2,c2,rfl⟩,a3,c3,rfl⟩:=IW.slices;replace l0:=aK hb4 l0;replace l1:=aK hb4 l1;replace l2:=aK hb4 l2;replace lz:=cell_lt l0;have dZ:=fU.trans (hb4.mono fU.size);clear IW)))
   go_ret;exact⟨by rw[HF.out];rfl,dZ⟩
 ·obtain rfl:rs.length=k:=by omega
  have HF:=Za (Zb Jr.all hB);go_wp2;go_ret;exact⟨by rw[HF.out.1,lK.out];rfl,HF.out.2⟩
structure jV where
 kb:Nat
 b3:Nat
 bo:Nat
 bm:Nat
 wa:Option Addr
 wc:Nat
 ea:Option Addr
 ec:Nat
 gv:Value
 gi:Value
 go:Value
 qv:Value
 qi:Value
 qo:Value
 fn:Value
abbrev jV.vw (A:jV) (V:Nat):Value:=.slice A.wa V A.wc
abbrev jV.ve (A:jV) (n:Nat):Value:=.slice A.ea n A.ec
abbrev jV.cells (A:jV) (W V n:Nat):Array Value:=#[.int .i64 (W:Int),A.gv,A.gi,A.go,.int .i64 (V:Int),A.qv,A.qi,A.qo,.slice A.wa V A.wc,.slice A.ea n A.ec,.slice (some ⟨A.b3,0,none⟩) W W,A.fn]
structure Fv (W V:Nat) (A:jV) (n B:Nat) (w:World) (ws:List Int):Prop where
 kk:Bk w A.kb 152 (A.cells W V n)
 rw:Rw w B (A.vw V) ws
 tk:um w A.b3 (Bv W ws)
 wl:ws.length=V
 pw:vk W ws
theorem Fv.keep {W V:Nat} {A:jV} {n B:Nat} {w w':World} {ws:List Int} (hb:Below w.heap.size w w') (h:Fv W V A n B w ws):Fv W V A n B w' ws:=⟨h.kk.keep hb,h.rw.keep hb,h.tk.keep hb,h.wl,h.pw⟩
structure Dt (w:World) (bn Bn:Nat) (vn:Value) (nt:List Int):Prop where
 kn:Bk w bn 23 #[vn]
 rn:Rw w Bn vn nt
theorem Dt.keep {w w':World} {bn Bn:Nat} {vn:Value} {nt:List Int} (hb:Below w.heap.size w w') (h:Dt w bn Bn vn nt):Dt w' bn Bn vn nt:=⟨h.kn.keep hb,h.rn.keep hb⟩
def agz (A:jV) (V bn:Nat) (vn:Value):Nat->Prop:=λj=>(A.vw V).ownBlock=some j\/j=A.b3\/j=bn\/vn.ownBlock=some j
def adD (W V:Nat) (A:jV) (n B bn Bn:Nat) (vn:Value) (ws nt:List Int) (i:Nat) (v:Int) (w:World) (e:Ending) (w':World):Prop :=
 ∃b,e=.returned (.bool b)/\(setW ws i v=none->b=false/\w'=w) /\
  ∀ws',setW ws i v=some ws'->b=true/\∃vn',Fv W V A n B w' ws'/\Dt w' bn Bn vn' (nt++notE ws i)/\(vn'.ownBlock=vn.ownBlock\/∀j,vn'.ownBlock=some j->w.heap.size<=j)/\aC (agz A V bn vn) w w'
theorem amB (W V:Nat) (A:jV) (n B bn Bn:Nat) (vn:Value) (ws nt:List Int) (i v:Nat) (w:World) (hS:Fv W V A n B w ws) (hN:Dt w bn Bn vn nt) (hap:∀j,(A.vw V).ownBlock=some j->vn.ownBlock≠some j) (hi:i<V) (hv:v<W) (lD:nt.length<=100000) (hBn:Bn<=w.heap.size) :
  Calls Tryz.prog 130 #[.pointer (some ⟨A.kb,0,none⟩),.int .i64 (i:Int),.int .i64 (v:Int),.pointer (some ⟨bn,0,none⟩)] w (adD W V A n B bn Bn vn ws nt i v w):=by
 obtain⟨K0,-,kz⟩:=hS.kk.cell;have k8:=K0 8;have k10:=K0 10;simp only[Ze,Zc,Zd]at k8 k10;clear K0;obtain⟨d1,c',e,hg1,aS⟩:=hS.rw.block (by rw[hS.wl];omega);simp only[Zx]at e;obtain⟨e1,-,-⟩:=e;have hR:=hS.rw;have qZ:=hS.wl;rw[show A.vw V=.slice (some ⟨d1,0,none⟩) V A.wc by unfold jV.vw;rw[e1]]at hR hap;obtain⟨⟨p0,pf⟩,cZ⟩:=Rw.setAt hR qZ hi (v:Int);rw[show ws[i]'(by omega)=ws.getD i 0 by rw[Zg,Zi];rfl]at p0;have t0:=hS.tk.get v (by rw[afd];exact hv);rw[TY]at t0;have tf:=hS.tk.frz v;have tz:=hS.tk.lt;have hrg:=hS.pw.rng i (by omega);rw[e1]at k8;obtain⟨z,hz⟩:∃z,ws.getD i 0=z:=⟨_,rfl⟩
 rw[hz]at p0 hrg;have HZ:=Za hz;have HS:=Za hS;have HN:=Za hN;have Rz:=Za cZ;have Jq:=Za hap;have HR:=Za hR;have o7:=Za qZ;clear hz hS hN cZ hap hR qZ;go_enter Tryz.func130,Tryz.ntmps130;by_cases hz0:0<=z
 ·by_cases E9:z=(v:Int)
  ·have HP:Hid (adD W V A n B bn Bn vn ws nt i v w (.returned (.bool true)) w):=Za (by
    have hs:setW ws i (v:Int)=some ws:=by unfold setW;rw[ZE (by rw[HZ.out];omega),ZE (by rw[HZ.out];exact E9)]
    refine⟨true,rfl,λh=>(by rw[hs]at h;cases h),λws' h=>?_⟩;rw[hs,ZQ]at h;subst h;refine⟨rfl,vn,HS.out,?_,.inl rfl,aC.refl _ _⟩;unfold notE;rw[ZE (by rw[HZ.out];omega),ZZ];exact HN.out)
   subst E9;clear HZ;go_wp2;go_ret;exact HP.out
  ·have HP:Hid (adD W V A n B bn Bn vn ws nt i v w (.returned (.bool false)) w):=Za (by
    have hs:setW ws i (v:Int)=none:=by unfold setW;rw[ZE (by rw[HZ.out];omega),ZH (by rw[HZ.out];exact E9)]
    exact⟨false,rfl,λh=>⟨rfl,rfl⟩,λws' h=>(by rw[hs]at h;cases h)⟩)
   have hb:(z==(v:Int))=false:=Yu.2 E9;go_wp2;go_ret;exact HP.out
 ·obtain rfl:z=-1:=by omega
  by_cases hm:(v:Int)∈ws
  ·have HP:Hid (adD W V A n B bn Bn vn ws nt i v w (.returned (.bool false)) w):=Za (by
    have hs:setW ws i (v:Int)=none:=by unfold setW;rw[ZH (by rw[HZ.out];simp),ZE hm]
    exact⟨false,rfl,λh=>⟨rfl,rfl⟩,λws' h=>(by rw[hs]at h;cases h)⟩)
   rw[show ws.contains (v:Int)=true by simpa using hm]at t0;clear hm;go_wp2;go_ret;exact HP.out
  ·rw[show ws.contains (v:Int)=false by simpa using hm]at t0;have HM:=Za hm;clear hm;have jH:¬A.kb=d1:=λe=>cO HR.out HS.out.kk (by decide) (by rw[e];rfl);have jI:¬A.kb=A.b3:=λe=>by
    have h1:=HS.out.kk;have h2:=HS.out.tk;unfold um at h2;rw[e]at h1;have:=h1.symm.trans h2;simp at this
   have Iu:¬d1=A.b3:=λe=>cO HR.out (show Bk w A.b3 4 _ from HS.out.tk) (by decide) (by rw[<-e];rfl);have hn4:¬A.b3=d1:=λe=>Iu e.symm;go_wp2_with fail
   have HB:Hid (d1<w.heap.size/\A.b3<w.heap.size/\A.kb<w.heap.size):=Za ⟨hg1,tz,kz⟩;refine h_ (C:=aC ((λj=>j=d1\/j=A.b3)) _) 15 [0,1,2,3,4,5,6,7,8,9,10,11,12,13,14] (by kernel_rfl) (by kernel_rfl) (aC.aJ _ _) (aC.refl _ _) ?_;iterate 12 (apply i_ rfl rfl rfl;(focus intro u hc' hf';(try simp only[Zo]at hc' hf');go_simp<;>rfl);intro K hK;go_simp;apply hK;clear hK K)
   refine jd rfl rfl rfl (aC.aJ _ _) (aC.refl _ _) (λK hK=>?_);intro u1 dQ hb1;have vS:=(Zl w.heap.size w).drew.trans (hb1.mono (by simp));obtain⟨⟨r0,rf⟩,amC⟩:=Rw.setAt (HR.out.keep vS) o7.out hi (v:Int);have rz:=cell_lt r0;refine⟨u1.setCell ⟨d1,i,none⟩ (.int .i64 (v:Int)),?_,⟨bF dQ (.inr (.inl rfl)) _,by simp,λj hN _ _=>by rw[Zm _ _ _ _ (λh=>by simp at h;simp only[Zo]at hN;omega)]⟩,?_⟩
   ·go_simp
   go_simp;refine hK _ _ _ ?_;clear hK K r0 rf rz;have uZ:=(HS.out.kk.keep vS).other ⟨d1,i,none⟩ (.int .i64 (v:Int)) jH;have ht1:um (u1.setCell ⟨d1,i,none⟩ (.int .i64 (v:Int))) A.b3 (Bv W ws):=Bk.other (HS.out.tk.keep vS) ⟨d1,i,none⟩ (.int .i64 (v:Int)) hn4;have OG:=bF (T:=λj=>j=d1\/j=A.b3) (a:=⟨d1,i,none⟩) dQ (.inr (.inl rfl)) (.int .i64 (v:Int));have d_:=cO HN.out.rn HN.out.kn (by decide);have dI:¬bn=d1:=λe=>cO HR.out HN.out.kn (by decide) (by rw[e];rfl);have sV:¬bn=A.b3:=λe=>by
    have h1:=HN.out.kn;have h2:=HS.out.tk;unfold um at h2;rw[e]at h1;have:=h1.symm.trans h2;simp at this
   have F5:Dt (u1.setCell ⟨d1,i,none⟩ (.int .i64 (v:Int))) bn Bn vn nt:=⟨(HN.out.kn.keep vS).other _ _ dI,eP (HN.out.rn.keep vS) _ _ (λe=>Jq.out d1 rfl e)⟩
   generalize u1.setCell ⟨d1,i,none⟩ (.int .i64 (v:Int))=u2 at *;iterate 1 (apply i_ rfl rfl rfl;(focus intro u hc' hf';(try simp only[Zo]at hc' hf');go_simp<;>rfl);intro K hK;go_simp;apply hK;clear hK K)
   refine jd rfl rfl rfl (aC.aJ _ _) OG (λK hK=>?_);intro u3 hw3 hb3;have V_:=ht1.keep hb3;have r0:=V_.get v (by rw[afd];exact hv);have rf:=V_.frz v;have rz:=V_.lt;refine⟨u3.setCell ⟨A.b3,v,none⟩ (.bool true),?_,⟨bF hw3 (.inr (.inr rfl)) _,by simp,λj hN _ _=>by rw[Zm _ _ _ _ (λh=>by simp at h;simp only[Zo]at hN;omega)]⟩,?_⟩
   ·go_simp
   go_simp;refine hK _ _ _ ?_;clear hK K r0 rf rz;refine dR ?_;have hk4:=(uZ.keep hb3).other ⟨A.b3,v,none⟩ (.bool true) jI;have OA:=V_.set v true;rw[aqP (by rw[o7.out];omega) HZ.out hv]at OA;have hr4:Rw (u3.setCell ⟨A.b3,v,none⟩ (.bool true)) B (.slice (some ⟨d1,0,none⟩) V A.wc) (ws.set i (v:Int)):=eP (amC.keep hb3) ⟨A.b3,v,none⟩ (.bool true) (by simp[Value.ownBlock];exact Iu);have RD:Dt (u3.setCell ⟨A.b3,v,none⟩ (.bool true)) bn Bn vn nt:=⟨((F5.keep hb3).kn).other _ _ sV,eP (F5.keep hb3).rn ⟨A.b3,v,none⟩ (.bool true) (cO (F5.keep hb3).rn (show Bk u3 A.b3 4 _ from V_) (by decide))⟩
   have RF:=yF ((aC.refl (agz A V bn vn) w).below (Zl w.heap.size w).drew) (bF (T:=λj=>j=d1\/j=A.b3) (a:=⟨A.b3,v,none⟩) hw3 (.inr (.inr rfl)) (.bool true)) (λj hj=>.inl (by
    rcases hj with rfl|rfl
    ·exact .inl (by unfold jV.vw;rw[e1];rfl)
    ·exact .inr (.inl rfl)))
   have dZ:w.heap.size<=(u3.setCell ⟨A.b3,v,none⟩ (.bool true)).heap.size:=RF.size;generalize u3.setCell ⟨A.b3,v,none⟩ (.bool true)=u4 at *;clear vS uZ ht1 OG F5 hw3 hb3 V_ dQ hb1 amC k8 k10 p0 pf t0 tf tz hg1 kz;obtain⟨N0,Nf,nz⟩:=RD.kn.cell;have n0:=N0 0;have nf:=Nf 0;simp only[Ze,Zc,Zd]at n0;clear N0 Nf;have j_:=Dy u4 i;have hA:=aH u4 (.cells #[.int .i64 (i:Int)] 3);have W_:=RD.keep hA;have awK:=hA.size;have HX:=Za (Zb (hk4.keep hA) (Zb (OA.keep hA) (Zb (hr4.keep hA) (RF.below hA))));have OH:=Za W_.kn;have uM:=W_.rn;clear hk4 OA hr4 RF RD W_ hA;go_wp2_with (at_builtin;go_must (refine yZ j_ rfl (.tmp 49) (.tmp 51) rfl Bn vn nt rfl rfl uM (by omega) (by simp only[ZT];omega) ?_);intro v7 w7 q1 q2 q3;obtain⟨a7,c7,e7⟩:=q1.slice;rw[Zk,ZT]at e7;subst e7;have Ig:=Bk.grown q2 OH.out d_;obtain⟨N0,Nf,nz7⟩:=Ig.cell;have n7:=N0 0;have nf7:=Nf 0;simp only[Ze,Zc,Zd]at n7;clear N0 Nf)
   go_wp2;go_ret;have hs:setW ws i (v:Int)=some (ws.set i (v:Int)):=by unfold setW;rw[ZH (by rw[HZ.out];simp),ZH HM.out]
   refine⟨true,rfl,λh=>(by rw[hs]at h;cases h),λws' h=>?_⟩;rw[hs,ZQ]at h;subst h;have aP:=JV HS.out.pw (by rw[o7.out];exact hi) (by omega) (by omega) hs;obtain⟨x1,x2,x3,x4⟩:=HX.out;have Rq:vn.ownBlock≠some A.kb:=λe=>cO HN.out.rn HS.out.kk (by decide) e;have auy:vn.ownBlock≠some A.b3:=λe=>cO HN.out.rn (show Bk w A.b3 4 _ from HS.out.tk) (by decide) e;have hkb:¬A.kb=bn:=λe=>by
    have h1:=HN.out.kn;rw[<-e]at h1;have:=HS.out.kk.symm.trans h1;simp at this
   have k7:=(Bk.grown q2 x1 Rq).other ⟨bn,0,none⟩ (.slice a7 (nt.length+1) c7) hkb;have t7:=Bk.other (Bk.grown q2 x2 auy) ⟨bn,0,none⟩ (.slice a7 (nt.length+1) c7) (λe=>sV e.symm);have r7:=x3.grown q2 (λj hj=>Jq.out j hj);have r7':=eP r7 ⟨bn,0,none⟩ (.slice a7 (nt.length+1) c7) (by simp[Value.ownBlock];exact λe=>dI e.symm);have hE7:=bF (T:=agz A V bn vn) (a:=⟨bn,0,none⟩) (x4.grown q2 (λj hj=>.inr (.inr (.inr (.inr hj))))) (.inr (.inr (.inr (.inl rfl)))) (.slice a7 (nt.length+1) c7);refine⟨rfl,.slice a7 (nt.length+1) c7,⟨k7,by rw[show A.vw V=.slice (some ⟨d1,0,none⟩) V A.wc by unfold jV.vw;rw[e1]];exact r7',t7,by rw[Yf,o7.out],aP.1⟩,⟨by simpa using Ig.set 0 (.slice a7 (nt.length+1) c7),?_⟩,?_,hE7⟩
   ·unfold notE;rw[ZH (by rw[HZ.out];simp)];exact eP q1 ⟨bn,0,none⟩ _ (cO q1 Ig (by decide))
   ·rcases q3 with h|h
    ·exact .inl h
    ·refine .inr λj hj=>?_;rw[h]at hj;have:=Zy hj;omega
def amD (W V:Nat) (A:jV) (n B:Nat) (g_:List Int) (w:World) (e:Ending) (w':World):Prop :=
 e=.returned (.tuple #[])/\Fv W V A n B w' g_/\aC (λj=>(A.vw V).ownBlock=some j\/j=A.b3) w w'
theorem agA (W V:Nat) (A:jV) (n B Bn:Nat) (vn:Value) (g_ ws nt:List Int) (w:World) (hS:Fv W V A n B w ws) (hN:Rw w Bn vn nt) (hap:∀j,(A.vw V).ownBlock=some j->vn.ownBlock≠some j) (auz:vn.ownBlock≠some A.b3) (sV:Gp g_ ws nt) (lD:nt.length<=100000) :
  Calls Tryz.prog 131 #[.pointer (some ⟨A.kb,0,none⟩),vn] w (amD W V A n B g_ w):=by
 obtain⟨na,nc,rfl⟩:=hN.slice;have HW0:=Za hS.wl;have HNT:=Za sV;have HN:=Za hN;have HBK:Hid (uN ws nt=g_):=Za (aqT sV);have hrg:=sV.rng;have hl0:g_.length=V:=by rw[<-sV.len,hS.wl]
 have yO:=Za hrg;have HPT:=Za hS.pw;clear sV hN hrg;go_enter Tryz.func131,Tryz.ntmps131;go_wp2_with fail
 go_loopw [8] (λiv wr=>∃k:Nat,k<=nt.length/\iv=.int .i64 k/\Fv W V A n B wr (uN ws (nt.take k))/\Rw wr Bn (.slice na nt.length nc) nt/\aC (λj=>(A.vw V).ownBlock=some j\/j=A.b3) w wr) (λiv _=>nt.length-(intOf iv).toNat)
 case atStart=>exact⟨0,Zw _,rfl,by simpa[uN]using hS,HN.out,aC.refl _ _⟩
 case round =>
  clear hS HN;obtain⟨k,hk,rfl,hS,hN,hE⟩:=hrel;by_cases hlt:k<nt.length
  ·obtain⟨nb,no,rfl,c0⟩:=ints_at hN.at (i:=k) hlt;have hne:=aqV HNT.out k hlt;obtain⟨hr1,hr2⟩:=yO.out _ (Zp hlt);obtain⟨m,hm⟩:∃m:Nat,nt[k]=(m:Int):=⟨nt[k].toNat,by omega⟩
   rw[hm]at c0 hne hr1 hr2;rw[hl0]at hr2;simp only[Zr]at hne;have hmV:m<V:=by omega
   have qZ:=hS.wl;obtain⟨z,hz⟩:∃z,(uN ws (nt.take k)).getD m 0=z:=⟨_,rfl⟩
   have Jo:=hS.pw.rng m (by omega);rw[hz]at Jo;have hzn:z≠-1:=by rw[<-hz,hne.1];exact hne.2
   obtain⟨v,hv⟩:∃v:Nat,z=(v:Int):=⟨z.toNat,by omega⟩
   subst hv;have hvW:v<W:=by omega
   obtain⟨K0,-,kz⟩:=hS.kk.cell;have k8:=K0 8;have k10:=K0 10;simp only[Ze,Zc,Zd]at k8 k10;clear K0;obtain⟨d1,c',e,hg1,aS⟩:=hS.rw.block (by omega);simp only[Zx]at e;obtain⟨e1,-,-⟩:=e;have hR:=hS.rw;rw[show A.vw V=.slice (some ⟨d1,0,none⟩) V A.wc by unfold jV.vw;rw[e1]]at hR;rw[e1]at k8;obtain⟨⟨p0,pf⟩,cZ⟩:=Rw.setAt hR qZ hmV (-1);rw[show(uN ws (nt.take k))[m]'(by omega)=(uN ws (nt.take k)).getD m 0 by rw[Zg,Zi];rfl,hz]at p0;have tz:=hS.tk.lt;have cz:=cell_lt c0;have jH:¬A.kb=d1:=λe=>cO hR hS.kk (by decide) (by rw[e];rfl);have jI:¬A.kb=A.b3:=λe=>by
    have h1:=hS.kk;have h2:=hS.tk;unfold um at h2;rw[e]at h1;have:=h1.symm.trans h2;simp at this
   have Iu:¬d1=A.b3:=λe=>cO hR (show Bk wr A.b3 4 _ from hS.tk) (by decide) (by rw[<-e];rfl);have hn4:¬A.b3=d1:=λe=>Iu e.symm;have hn5:¬nb=d1:=λe=>hap d1 (by unfold jV.vw;rw[e1];rfl) (by rw[<-e];rfl);have hn6:¬nb=A.b3:=λe=>auz (by rw[<-e];rfl);have HS:=Za hS;have HN:=Za hN;have HE:=Za hE;have HZ:=Za (Zb hz hzn);have o7:=Za qZ;have HR:=Za hR;have HM:=Za hm;clear hS hN hE cZ hne hz hzn qZ hR Jo hm;go_wp2_with fail
   have hzz:=HZ.out.1;refine h_ (C:=aC ((λj=>j=A.b3)) _) 13 [0,1,2,3,4,5,6,7,8,9,10,11,12] (by kernel_rfl) (by kernel_rfl) (aC.aJ _ _) (aC.refl _ _) ?_;iterate 12 (apply i_ rfl rfl rfl;(focus intro u hc' hf';(try simp only[Zo]at hc' hf');go_simp<;>rfl);intro K hK;go_simp;apply hK;clear hK K)
   refine jd rfl rfl rfl (aC.aJ _ _) (aC.refl _ _) (λK hK=>?_);intro u1 dQ hb1;have vS:=(Zl wr.heap.size wr).drew.trans (hb1.mono (by simp));have hS1:=HS.out.keep vS;have r0:=hS1.tk.get v (by rw[afd];exact hvW);have rf:=hS1.tk.frz v;have rz:=hS1.tk.lt;refine⟨u1.setCell ⟨A.b3,v,none⟩ (.bool false),?_,⟨bF dQ (.inr rfl) _,by simp,λj hN _ _=>by rw[Zm _ _ _ _ (λh=>by simp at h;simp only[Zo]at hN;omega)]⟩,?_⟩
   ·go_simp
   go_simp;refine hK _ _ _ ?_;clear hK K r0 rf rz;refine dR ?_;have k2:=hS1.kk.other ⟨A.b3,v,none⟩ (.bool false) jI;have t2:=hS1.tk.set v false;have r2:Rw (u1.setCell ⟨A.b3,v,none⟩ (.bool false)) B (.slice (some ⟨d1,0,none⟩) V A.wc) (uN ws (nt.take k)):=eP (HR.out.keep vS) ⟨A.b3,v,none⟩ (.bool false) (by simp[Value.ownBlock];exact Iu);have i2:Rw (u1.setCell ⟨A.b3,v,none⟩ (.bool false)) Bn (.slice (some ⟨nb,no,none⟩) nt.length nc) nt:=eP (HN.out.keep vS) _ _ (by simp[Value.ownBlock];exact hn6);have tX:=yF (yF HE.out ((aC.refl dD wr).below (Zl wr.heap.size wr).drew) (λj hj=>hj.elim)) (bF (T:=λj=>j=A.b3) (a:=⟨A.b3,v,none⟩) dQ (.inr rfl) (.bool false)) (λj hj=>.inl (.inr hj));generalize u1.setCell ⟨A.b3,v,none⟩ (.bool false)=u2 at *;clear k8 k10 p0 pf kz tz cz c0 dQ hb1 vS hS1;obtain⟨K0,-,kz⟩:=k2.cell;have k8:=K0 8;simp only[Ze,Zc,Zd]at k8;clear K0;rw[e1]at k8;obtain⟨⟨p0,pf⟩,cZ⟩:=Rw.setAt r2 o7.out hmV (-1);have pz:=cell_lt p0;have k3:=k2.other ⟨d1,m,none⟩ (.int .i64 (-1)) jH;have t3:=Bk.other t2 ⟨d1,m,none⟩ (.int .i64 (-1)) hn4;have i3:Rw (u2.setCell ⟨d1,m,none⟩ (.int .i64 (-1))) Bn (.slice (some ⟨nb,no,none⟩) nt.length nc) nt:=eP i2 _ _ (by simp[Value.ownBlock];exact hn5);have hE3:=bF (T:=λj=>(A.vw V).ownBlock=some j\/j=A.b3) (a:=⟨d1,m,none⟩) tX (.inr (.inl (by unfold jV.vw;rw[e1];rfl))) (.int .i64 (-1));have k_:=aqQ (W:=W) HS.out.pw (by rw[o7.out];exact hmV) (by rw[hzz];omega);rw[hzz,Zr]at k_;rw[k_]at t3;have jC:uN ws (nt.take (k+1))=(uN ws (nt.take k)).set m (-1):=by rw[Zv hlt,aqS,HM.out,Zr]
   have Jj:Fv W V A n B (u2.setCell ⟨d1,m,none⟩ (.int .i64 (-1))) (uN ws (nt.take (k+1))):=by
    rw[jC];refine⟨k3,by rw[show A.vw V=.slice (some ⟨d1,0,none⟩) V A.wc by unfold jV.vw;rw[e1]];exact cZ,t3,by rw[Yf,o7.out],?_⟩;rw[<-jC];exact aqU HPT.out _ (λx hx=>by have:=yO.out x (Y8 hx);rw[hl0]at this;rw[HW0.out];exact this)
   have H3:=Za (Zb Jj (Zb i3 hE3));clear k2 t2 r2 i2 tX k3 t3 i3 hE3 k_ jC Jj cZ hzz;go_wp2;go_roundw
   case rel=>exact⟨k+1,by omega,by go_num,H3.out.1,H3.out.2.1,H3.out.2.2⟩
   case measure=>simp[intOf];omega
  ·obtain rfl:k=nt.length:=by omega
   have HP:Hid (amD W V A n B g_ w (.returned (.tuple #[])) wr):=Za ⟨rfl,by rw[ZY,HBK.out]at hS;exact hS,hE⟩;clear hS hN hE;go_wp2;refine XV (v:=.tuple #[]) (by simp[results,Tryz.results131,go_sem]) rfl ?_;exact HP.out
end Go.Proofs.YtkhpobekconobaaGreat

/-
  The reference's reader: row. Own work.
-/
import Derived.Test.YtbljmfcifljkaaaGreatDoorYEE
import Derived.Test.YtbljmfcifljkaaaGreatDoorYAA
import Derived.Test.YtbljmfcifljkaaaGreatDoorYS
set_option linter.all false
set_option maxRecDepth 100000
set_option maxHeartbeats 8000000
namespace Go.Proofs.YtbljmfcifljkaaaGreatDoor
open Go.RowKit
abbrev SPartAt (B bx:Nat) (all:List Tk) (f:Nat):Prop:=∀ (nx:Nat) (ts:List Tk) (out:Rd) (w:World),all.drop nx=ts → ts.length≤f → out.length+ts.length≤40000 → SxAt B bx all w nx (out.map Prod.fst) (out.map Prod.snd) false →
 Calls Tryz.prog 168 #[.pointer (some ⟨bx,0,none⟩)] w (SPost B bx all w ts out (pPart f ts out))
abbrev SRowAt (B bx:Nat) (all:List Tk) (f:Nat):Prop:=∀ (nx:Nat) (ts:List Tk) (out:Rd) (w:World),all.drop nx=ts → ts.length≤f → out.length+ts.length≤40000 → SxAt B bx all w nx (out.map Prod.fst) (out.map Prod.snd) false →
 Calls Tryz.prog 103 #[.pointer (some ⟨bx,0,none⟩)] w (SPost B bx all w ts out (pRow f ts out))
abbrev STermAt (B bx:Nat) (all:List Tk) (f:Nat):Prop:=∀ (nx:Nat) (ts:List Tk) (out:Rd) (w:World),all.drop nx=ts → ts.length≤f → out.length+ts.length≤40000 → SxAt B bx all w nx (out.map Prod.fst) (out.map Prod.snd) false →
 Calls Tryz.prog 47 #[.pointer (some ⟨bx,0,none⟩)] w (SPost B bx all w ts out (pTerm f ts out))
def sxLeft (w:World) (bx:Nat):Nat:=match w.cell? ⟨bx,0,none⟩,w.cell? ⟨bx,1,none⟩ with
 | some (.slice _ n _),some (.int _ i)=>n - i.toNat
 | _,_=>0
theorem SxAt.left {B bx:Nat} {all:List Tk} {w:World} {nx:Nat} {nodes:List Nd} {ats:List Int} {failed:Bool} (h:SxAt B bx all w nx nodes ats failed):sxLeft w bx=(all.drop nx).length:=by
 obtain ⟨vt,vn,va,h⟩:=h
 obtain ⟨a,c,rfl,hc⟩:=h.tk.shape
 simp [sxLeft,h.c0,h.c1]
def RowSt (B bx:Nat) (all:List Tk) (w wr:World) (ts:List Tk) (out:Rd) (f:Nat) (res:PRes) (rows:Nat → List Tk → Rd → PRes):Prop :=
 (∃ (f' nx':Nat) (ts':List Tk) (out':Rd),f'≤f∧all.drop nx'=ts'∧ts'.length≤f'∧out'.length+ts'.length≤40000∧SxAt B bx all wr nx' (out'.map Prod.fst) (out'.map Prod.snd) false∧Fr B bx w wr∧ts'.length≤ts.length∧out'.length+ts'.length≤out.length+ts.length∧Hid (res=rows f' ts' out')) ∨
 (∃ (nx':Nat) (nodes:List Nd) (ats:List Int),res.bad=true∧all.drop nx'=res.rest∧SxAt B bx all wr nx' nodes ats true∧Fr B bx w wr∧res.rest.length≤ts.length∧nodes.length=ats.length∧nodes.length+res.rest.length≤out.length+ts.length)
theorem sxRow_at (B bx:Nat) (all:List Tk) (f:Nat) (hP:∀ g,g≤f → SPartAt B bx all g):SRowAt B bx all f:=by
 intro nx ts out w hd hts hsum h
 have h0:=hP f (Nat.le_refl _) nx ts out w hd hts hsum h
 obtain ⟨RES,hRES⟩:∃ R,pRow f ts out=R:=⟨_,rfl⟩
 rw [hRES]
 obtain ⟨⟨bad,rest,o⟩,hq⟩:∃ q,pPart f ts out=q:=⟨_,rfl⟩
 rw [hq] at h0
 have HR:Hid (RES=if bad then ⟨true,rest,o⟩ else pRows f rest o):=(show _=_ by rw [← hRES,pRow.eq_def,hq];cases bad <;> rfl)
 have HS:=Lib.hid (And.intro hd (And.intro hts hsum))
 clear hRES hq
 go_enter Tryz.func103,Tryz.ntmps103
 go_wp2_with (go_at_call 168;refine h0.mono ?_;rintro e w1 hp1;obtain rfl:=hp1.ret;have HP1:=Lib.hid hp1;clear hp1)
 clear hd hts hsum h h0
 go_loopw [5,6] (fun _ _ wr=>RowSt B bx all w wr ts out f RES pRows) (fun _ _ wr=>sxLeft wr bx)
 case atStart =>
  obtain ⟨hd,hts,hsum⟩:=HS.out
  obtain ⟨⟨nx1,nodes1,ats1,h1,hd1,hn1,he1,hs1⟩,hF1,hl1,_⟩:=HP1.out
  cases bad with
  | true =>
   have e:RES=⟨true,rest,o⟩:=by simpa using HR.out
   refine .inr ⟨nx1,nodes1,ats1,?_,?_,h1,hF1,?_,he1,?_⟩
   ·rw [e]
   ·rw [e];exact hd1
   ·rw [e];exact hl1
   ·rw [e];exact hs1
  | false =>
   obtain ⟨rfl,rfl⟩:=hn1 rfl
   simp only [List.length_map] at hs1
   exact .inl ⟨f,nx1,rest,o,Nat.le_refl _,hd1,by simp only at hl1;omega,by omega,h1,hF1,hl1,hs1,(by have:=HR.out;simpa using this:RES=_)⟩
 case round =>
  rcases hrel with ⟨f',nx',ts',out',hff,hd',hlf,hof,hx',hF',hlt,hst,HG⟩|⟨nx',nodes,ats,hbad,hd',hx',hF',hlt,hne,hst⟩
  ·have hleft:=hx'.left
   rw [hd'] at hleft
   obtain ⟨k1,k4,f1,f4,sx⟩:=hx'.cells
   cases hy:isSymS ts' ⟨#[42]⟩
   ·have HE:Hid (RES=⟨false,ts',out'⟩):=(show _=_ by
     rw [HG.out]
     have hy':isSym ts' 42=false:=by rw [← isSymS_eq];exact hy
     cases f' <;> simp [pRows,hy'])
    have HZ:=Lib.hid (And.intro hd' (And.intro hlt hst))
    rw [← hd'] at hy
    clear hd' hlt hst hof hlf
    go_wp2_with (go_at_call 102;refine (sxIs_any B bx all _ _ _ _ _ _ hx').mono ?_;rintro e w2 ⟨rfl,hb2⟩;rw [hy])
    exact bodyPost_end (v:=.tuple #[]) (by simp [results,Tryz.results103,go_sem]) rfl (by rw [HE.out];exact ⟨⟨nx',_,_,sxAt_below hx' hb2,HZ.out.1,(fun _=>⟨rfl,rfl⟩),by simp,by simpa using HZ.out.2.2⟩,hF'.trans (Fr.below hx'.facts.2.1 hb2),HZ.out.2.1,rfl⟩)
   ·cases ts' with
    | nil=>simp [isSymS] at hy
    | cons t r =>
     obtain ⟨g,rfl⟩:∃ g,f'=g+1:=⟨f' - 1,by simp at hlf;omega⟩
     have hlf':r.length≤g:=by simpa using hlf
     have hy':isSym (t :: r) 42=true:=by rw [← isSymS_eq];exact hy
     obtain ⟨hl,hget⟩:=drop_get hd'
     have hd2:=(drop_cons hd').2
     obtain ⟨⟨bad2,rest2,o2⟩,hq⟩:∃ q,pPart g r out'=q:=⟨_,rfl⟩
     have hg:=fun w2 h2=>hP g (by omega) (nx'+1) r out' w2 hd2 hlf' (by simp at hof;omega) h2
     rw [hq] at hg
     have HN:Hid (RES=if bad2 then ⟨true,rest2,o2⟩ else pRows g rest2 (o2 ++ [(⟨16,0,⟨#[]⟩⟩,t.pos)])):=(show _=_ by rw [HG.out,pRows,if_pos hy'];simp only [List.tail_cons,hq];cases bad2 <;> simp)
     have HZ:=Lib.hid (And.intro hd' (And.intro hlt (And.intro hst (And.intro hof (And.intro hlf' (And.intro hd2 hget))))))
     have hall:=hx'.facts.2.2.2.1
     have hnx1:(nx':Int)+1≤40000:=by omega
     rw [← hd'] at hy
     have hltI:(nx':Int)<all.length:=by omega
     have HTL:Hid (r.length+1≤40000):=(show _≤_ by simp at hof;omega)
     clear hd' hlt hst hof hlf hlf' hd2 hget hq HG hy'
     go_wp2_with (go_at_call 102;refine (sxIs_any B bx all _ _ _ _ _ _ hx').mono ?_;rintro e w2 ⟨rfl,hb2⟩;rw [hy];have h2:=sxAt_below hx' hb2;obtain ⟨vt2,vn2,va2,hv2⟩:=id h2;obtain ⟨b2,o2',c2,rfl,hc2,t0,t1,t2⟩:=hv2.tk.get nx' hl;rw [HZ.out.2.2.2.2.2.2] at t0 t1 t2;have q0:=hv2.c0;have q1:=hv2.c1)
     go_quiet (fail)
     have hb3:Below w2.heap.size w2 (w2.drewN nq):=below_drewN (Below.refl w2.heap.size w2) nq
     obtain ⟨W3,hW3⟩:∃ W3,W3=w2.drewN nq:=⟨_,rfl⟩
     rw [← hW3] at hb3 ⊢
     have h3:=sxAt_below h2 hb3
     obtain ⟨p1,p4,g1,g4,s3⟩:=h3.cells
     obtain ⟨h4,hF4⟩:=sx_next h3 hl
     clear hW3 q0 q1 t0 t1 t2 hv2
     go_wp2_with (first|(go_at_call 168;refine (hg _ h4).mono ?_;rintro e w5 ⟨⟨nx5,nodes5,ats5,h5,hd5,hn5,he5,hs5⟩,hF5,hl5,rfl⟩)|(go_at_call 104;refine (sxPut_any B bx all nx5 nodes5 ats5 _ ⟨16,0,⟨#[]⟩⟩ t.pos _ h5 (by have:=HZ.out.2.2.2.1;simp at this;omega) (by have:=HZ.out.2.2.2.1;simp at this;omega)).mono ?_;rintro e w6 ⟨rfl,h6,hF6⟩))
     have hF7:=((((hF'.trans (Fr.below hx'.facts.2.1 hb2)).trans (Fr.below h2.facts.2.1 hb3)).trans hF4).trans hF5).trans hF6
     have hl6:=h6.left
     rw [hd5] at hl6
     go_wp2
     go_roundw
     case rel =>
      obtain ⟨z1,z2,z3,z4,z5,z6,_⟩:=HZ.out
      simp at z2 z3 z4 hs5 hl5
      cases bad2 with
      | true =>
       have e:RES=⟨true,rest2,o2⟩:=by simpa using HN.out
       exact .inr ⟨nx5,nodes5 ++ [⟨16,0,⟨#[]⟩⟩],ats5 ++ [t.pos],by rw [e],by rw [e];exact hd5,h6,hF7,by rw [e];simp only;omega,by simp [he5],by rw [e];simp;omega⟩
      | false =>
       obtain ⟨rfl,rfl⟩:=hn5 (by first|rfl|trivial)
       simp only [List.length_map] at hs5
       exact .inl ⟨g,nx5,rest2,o2 ++ [(⟨16,0,⟨#[]⟩⟩,t.pos)],by omega,hd5,by omega,by simp;omega,by simpa using h6,hF7,by omega,by simp;omega,(by have:=HN.out;simpa using this:RES=_)⟩
     case measure=>rw [hl6,hleft];simp at hl5 ⊢;omega
  ·obtain ⟨k1,k4,f1,f4,sx⟩:=hx'.cells
   have HZ:=Lib.hid (And.intro hd' (And.intro hlt (And.intro hst hbad)))
   clear hd' hlt hst hbad
   go_wp2
   exact bodyPost_end (v:=.tuple #[]) (by simp [results,Tryz.results103,go_sem]) rfl ⟨⟨nx',nodes,ats,by rw [HZ.out.2.2.2];exact hx',HZ.out.1,(fun hh=>by rw [HZ.out.2.2.2] at hh;cases hh),hne,HZ.out.2.2.1⟩,hF',HZ.out.2.1,rfl⟩
end Go.Proofs.YtbljmfcifljkaaaGreatDoor
/-
  The reference's reader: term. Own work.
-/
namespace Go.Proofs.YtbljmfcifljkaaaGreatDoor
open Go.RowKit
theorem sxTerm_at (B bx:Nat) (all:List Tk) (f:Nat) (hP:∀ g,g≤f → SRowAt B bx all g):STermAt B bx all f:=by
 intro nx ts out w hd hts hsum h
 have h0:=hP f (Nat.le_refl _) nx ts out w hd hts hsum h
 obtain ⟨RES,hRES⟩:∃ R,pTerm f ts out=R:=⟨_,rfl⟩
 rw [hRES]
 obtain ⟨⟨bad,rest,o⟩,hq⟩:∃ q,pRow f ts out=q:=⟨_,rfl⟩
 rw [hq] at h0
 have HR:Hid (RES=if bad then ⟨true,rest,o⟩ else pTerms f rest o):=(show _=_ by rw [← hRES,pTerm.eq_def,hq];cases bad <;> rfl)
 have HS:=Lib.hid (And.intro hd (And.intro hts hsum))
 clear hRES hq
 go_enter Tryz.func47,Tryz.ntmps47
 go_wp2_with (go_at_call 103;refine h0.mono ?_;rintro e w1 hp1;obtain rfl:=hp1.ret;have HP1:=Lib.hid hp1;clear hp1)
 clear hd hts hsum h h0
 go_loopw [5,6] (fun _ _ wr=>RowSt B bx all w wr ts out f RES pTerms) (fun _ _ wr=>sxLeft wr bx)
 case atStart =>
  obtain ⟨hd,hts,hsum⟩:=HS.out
  obtain ⟨⟨nx1,nodes1,ats1,h1,hd1,hn1,he1,hs1⟩,hF1,hl1,_⟩:=HP1.out
  cases bad with
  | true =>
   have e:RES=⟨true,rest,o⟩:=by simpa using HR.out
   refine .inr ⟨nx1,nodes1,ats1,?_,?_,h1,hF1,?_,he1,?_⟩
   ·rw [e]
   ·rw [e];exact hd1
   ·rw [e];exact hl1
   ·rw [e];exact hs1
  | false =>
   obtain ⟨rfl,rfl⟩:=hn1 rfl
   simp only [List.length_map] at hs1
   exact .inl ⟨f,nx1,rest,o,Nat.le_refl _,hd1,by simp only at hl1;omega,by omega,h1,hF1,hl1,hs1,(by have:=HR.out;simpa using this:RES=_)⟩
 case round =>
  rcases hrel with ⟨f',nx',ts',out',hff,hd',hlf,hof,hx',hF',hlt,hst,HG⟩|⟨nx',nodes,ats,hbad,hd',hx',hF',hlt,hne,hst⟩
  ·have hleft:=hx'.left
   rw [hd'] at hleft
   obtain ⟨k1,k4,f1,f4,sx⟩:=hx'.cells
   cases hy:isSymS ts' ⟨#[59]⟩
   ·have HE:Hid (RES=⟨false,ts',out'⟩):=(show _=_ by
     rw [HG.out]
     have hy':isSym ts' 59=false:=by rw [← isSymS_eq];exact hy
     cases f' <;> simp [pTerms,hy'])
    have HZ:=Lib.hid (And.intro hd' (And.intro hlt hst))
    rw [← hd'] at hy
    clear hd' hlt hst hof hlf
    go_wp2_with (go_at_call 102;refine (sxIs_any B bx all _ _ _ _ _ _ hx').mono ?_;rintro e w2 ⟨rfl,hb2⟩;rw [hy])
    exact bodyPost_end (v:=.tuple #[]) (by simp [results,Tryz.results47,go_sem]) rfl (by rw [HE.out];exact ⟨⟨nx',_,_,sxAt_below hx' hb2,HZ.out.1,(fun _=>⟨rfl,rfl⟩),by simp,by simpa using HZ.out.2.2⟩,hF'.trans (Fr.below hx'.facts.2.1 hb2),HZ.out.2.1,rfl⟩)
   ·cases ts' with
    | nil=>simp [isSymS] at hy
    | cons t r =>
     obtain ⟨g,rfl⟩:∃ g,f'=g+1:=⟨f' - 1,by simp at hlf;omega⟩
     have hlf':r.length≤g:=by simpa using hlf
     have hy':isSym (t :: r) 59=true:=by rw [← isSymS_eq];exact hy
     obtain ⟨hl,hget⟩:=drop_get hd'
     have hd2:=(drop_cons hd').2
     obtain ⟨⟨bad2,rest2,o2⟩,hq⟩:∃ q,pRow g r out'=q:=⟨_,rfl⟩
     have hg:=fun w2 h2=>hP g (by omega) (nx'+1) r out' w2 hd2 hlf' (by simp at hof;omega) h2
     rw [hq] at hg
     have HN:Hid (RES=if bad2 then ⟨true,rest2,o2⟩ else pTerms g rest2 (o2 ++ [(⟨15,0,⟨#[]⟩⟩,t.pos)])):=(show _=_ by rw [HG.out,pTerms,if_pos hy'];simp only [List.tail_cons,hq];cases bad2 <;> simp)
     have HZ:=Lib.hid (And.intro hd' (And.intro hlt (And.intro hst (And.intro hof (And.intro hlf' (And.intro hd2 hget))))))
     have hall:=hx'.facts.2.2.2.1
     have hnx1:(nx':Int)+1≤40000:=by omega
     rw [← hd'] at hy
     have hltI:(nx':Int)<all.length:=by omega
     have HTL:Hid (r.length+1≤40000):=(show _≤_ by simp at hof;omega)
     clear hd' hlt hst hof hlf hlf' hd2 hget hq HG hy'
     go_wp2_with (go_at_call 102;refine (sxIs_any B bx all _ _ _ _ _ _ hx').mono ?_;rintro e w2 ⟨rfl,hb2⟩;rw [hy];have h2:=sxAt_below hx' hb2;obtain ⟨vt2,vn2,va2,hv2⟩:=id h2;obtain ⟨b2,o2',c2,rfl,hc2,t0,t1,t2⟩:=hv2.tk.get nx' hl;rw [HZ.out.2.2.2.2.2.2] at t0 t1 t2;have q0:=hv2.c0;have q1:=hv2.c1)
     go_quiet (fail)
     have hb3:Below w2.heap.size w2 (w2.drewN nq):=below_drewN (Below.refl w2.heap.size w2) nq
     obtain ⟨W3,hW3⟩:∃ W3,W3=w2.drewN nq:=⟨_,rfl⟩
     rw [← hW3] at hb3 ⊢
     have h3:=sxAt_below h2 hb3
     obtain ⟨p1,p4,g1,g4,s3⟩:=h3.cells
     obtain ⟨h4,hF4⟩:=sx_next h3 hl
     clear hW3 q0 q1 t0 t1 t2 hv2
     go_wp2_with (first|(go_at_call 103;refine (hg _ h4).mono ?_;rintro e w5 ⟨⟨nx5,nodes5,ats5,h5,hd5,hn5,he5,hs5⟩,hF5,hl5,rfl⟩)|(go_at_call 104;refine (sxPut_any B bx all nx5 nodes5 ats5 _ ⟨15,0,⟨#[]⟩⟩ t.pos _ h5 (by have:=HZ.out.2.2.2.1;simp at this;omega) (by have:=HZ.out.2.2.2.1;simp at this;omega)).mono ?_;rintro e w6 ⟨rfl,h6,hF6⟩))
     have hF7:=((((hF'.trans (Fr.below hx'.facts.2.1 hb2)).trans (Fr.below h2.facts.2.1 hb3)).trans hF4).trans hF5).trans hF6
     have hl6:=h6.left
     rw [hd5] at hl6
     go_wp2
     go_roundw
     case rel =>
      obtain ⟨z1,z2,z3,z4,z5,z6,_⟩:=HZ.out
      simp at z2 z3 z4 hs5 hl5
      cases bad2 with
      | true =>
       have e:RES=⟨true,rest2,o2⟩:=by simpa using HN.out
       exact .inr ⟨nx5,nodes5 ++ [⟨15,0,⟨#[]⟩⟩],ats5 ++ [t.pos],by rw [e],by rw [e];exact hd5,h6,hF7,by rw [e];simp only;omega,by simp [he5],by rw [e];simp;omega⟩
      | false =>
       obtain ⟨rfl,rfl⟩:=hn5 (by first|rfl|trivial)
       simp only [List.length_map] at hs5
       exact .inl ⟨g,nx5,rest2,o2 ++ [(⟨15,0,⟨#[]⟩⟩,t.pos)],by omega,hd5,by omega,by simp;omega,by simpa using h6,hF7,by omega,by simp;omega,(by have:=HN.out;simpa using this:RES=_)⟩
     case measure=>rw [hl6,hleft];simp at hl5 ⊢;omega
  ·obtain ⟨k1,k4,f1,f4,sx⟩:=hx'.cells
   have HZ:=Lib.hid (And.intro hd' (And.intro hlt (And.intro hst hbad)))
   clear hd' hlt hst hbad
   go_wp2
   exact bodyPost_end (v:=.tuple #[]) (by simp [results,Tryz.results47,go_sem]) rfl ⟨⟨nx',nodes,ats,by rw [HZ.out.2.2.2];exact hx',HZ.out.1,(fun hh=>by rw [HZ.out.2.2.2] at hh;cases hh),hne,HZ.out.2.2.1⟩,hF',HZ.out.2.1,rfl⟩
end Go.Proofs.YtbljmfcifljkaaaGreatDoor
/-
  The reference's reader: part, row and term at all tokens. Own work.
-/
namespace Go.Proofs.YtbljmfcifljkaaaGreatDoor
open Go.RowKit
theorem sxPart_any (B bx:Nat) (all:List Tk) (f:Nat) (hT:∀ g,g+1=f → STermAt B bx all g):SPartAt B bx all f:=by
 intro nx ts out w hd hts hsum h
 cases hy:isSymS ts ⟨#[40]⟩ with
 | true =>
  cases ts with
  | nil=>simp [isSymS] at hy
  | cons t r =>
   obtain ⟨g,rfl⟩:∃ g,f=g+1:=⟨f - 1,by simp at hts;omega⟩
   exact sxPart_paren B bx all g (fun nx out w h1 h2 h3=>hT g rfl nx _ out w rfl h1 h2 h3) nx t r out w hd (by simpa using hts) (by simpa using hsum) h hy
 | false =>
  by_cases hk:∃ t r,ts=t :: r∧t.kind=1
  ·obtain ⟨t,r,rfl,hk⟩:=hk
   obtain ⟨g,rfl⟩:∃ g,f=g+1:=⟨f - 1,by simp at hts;omega⟩
   by_cases hv:kindOfW t.text=1∨kindOfW t.text=7∨kindOfW t.text=13
   ·by_cases hn:∃ n r2,r=n :: r2∧n.kind=2
    ·obtain ⟨n,r2,rfl,hn⟩:=hn
     exact sxPart_val B bx all g nx t n r2 out w hd (by simpa using hsum) h hk hv hn
    ·exact sxPart_noval B bx all g nx t r out w hd (by simpa using hsum) h hk hv (fun n r2 e hh=>hn ⟨n,r2,e,hh⟩)
   ·exact sxPart_plain B bx all g nx t r out w hd (by simpa using hsum) h hk hv
  ·exact sxPart_noword B bx all f nx ts out w hd hts h hy (fun t r e hh=>hk ⟨t,r,e,hh⟩)
theorem sxPars_any (B bx:Nat) (all:List Tk):∀ f:Nat,∀ g,g≤f → SPartAt B bx all g∧SRowAt B bx all g∧STermAt B bx all g
 | f=>by
  intro g hg
  have hp:∀ k,k≤g → SPartAt B bx all k:=fun k hk=>sxPart_any B bx all k (fun j hj=>(sxPars_any B bx all j j (Nat.le_refl _)).2.2)
  have hr:∀ k,k≤g → SRowAt B bx all k:=fun k hk=>sxRow_at B bx all k (fun j hj=>hp j (by omega))
  exact ⟨hp g (Nat.le_refl _),hr g (Nat.le_refl _),sxTerm_at B bx all g hr⟩
 termination_by f=>f
 decreasing_by omega
theorem sxTerm_any (B bx:Nat) (all:List Tk) (f:Nat):STermAt B bx all f:=(sxPars_any B bx all f f (Nat.le_refl _)).2.2
end Go.Proofs.YtbljmfcifljkaaaGreatDoor
/-
  The reference's sxFault: the first fault of nodes that have been read. Own work; by a program of my own (parF.py).
-/
namespace Go.Proofs.YtbljmfcifljkaaaGreatDoor
open Go.RowKit
structure FtSt (leaf:Nd → Option W2) (rds:Rd) (w wr:World) (v8 v9:Value) (k:Nat) (st:List W2):Prop where
 r0:Rw wr w.heap.size v8 (st.map Prod.fst)
 r1:Rw wr w.heap.size v9 (st.map Prod.snd)
 ap:Apart v8 v9
 bel:Below w.heap.size w wr
 sm:∀ x ∈ st,Sm x
 hgo:Hid (chkGo leaf rds 0 []=chkGo leaf (rds.drop k) k st.reverse)
 wf:Hid (wfN (rds.drop k) st.length=some 1)
 len:st.length≤k
def SxInts (w:World) (v:Value) (xs:List Int):Prop:=SlAt 1 v xs.length fun i b o=>∃ h:i<xs.length,w.cell? ⟨b,o,none⟩=some (.int .i64 xs[i])
theorem rw_ints {w:World} {B:Nat} {v:Value} {xs:List Int} (h:Rw w B v xs):SxInts w v xs:=by
 refine owns_slat h _ fun i b o hi hc=>⟨hi,?_⟩
 have:=(hc 0 (by omega)).trans (flat_get iCell_len xs i 0 hi (by omega))
 simpa [iCell] using this
theorem leafIn_name {L:List Df} {n:Nd} (h:n.kind=17) (hv:n.value=0):leafIn L n=(findD L n.name).map fun d=>(d.inn,d.out):=by unfold leafIn;rw [if_pos h,if_pos hv]
theorem leafIn_other {L:List Df} {n:Nd} (h:n.kind ≠ 17):leafIn L n=if leafB n then some (arityW n) else none:=by unfold leafIn;rw [if_neg h]
theorem sxFault_any (v vn va:Value) (L:List Df) (rds:Rd) (w:World) (hv:DfsAt w v L) (hn:L.length≤1048576) (hsm:∀ d ∈ L,Sm (d.inn,d.out)) (hvn:NdsAt w vn (rds.map Prod.fst)) (hva:SxInts w va (rds.map Prod.snd)) (hrl:rds.length≤40000) (hp:∀ x ∈ rds,PNd x.1) (hw:wfN rds 0=some 1) :
  Calls Tryz.prog 48 #[v,vn,va] w fun e w'=>e=.returned (.tuple #[.int .i64 ((chkGo (leafIn L) rds 0 []).getD (0,0)).1,.int .i64 ((chkGo (leafIn L) rds 0 []).getD (0,0)).2])∧Below w.heap.size w w':=by
 obtain ⟨a,cap,rfl⟩:∃ a cap,v=.slice a L.length cap:=by obtain ⟨a,cap,rfl,_⟩:=hv;exact ⟨a,cap,rfl⟩
 obtain ⟨aN,cN,rfl,hcN,hatN⟩:=hvn
 obtain ⟨aA,cA,rfl,hcA,hatA⟩:=hva
 simp only [List.length_map] at hcN hcA hatN hatA ⊢
 obtain ⟨i0,hi,hz0,hz1,hz2⟩:=info_parts infoIntX
 have HW:=Lib.hid hw
 clear hw
 obtain ⟨RES,hRES⟩:∃ R,chkGo (leafIn L) rds 0 []=R:=⟨_,rfl⟩
 rw [hRES]
 have HRES:=Lib.hid hRES
 clear hRES
 go_enter Tryz.func48,Tryz.ntmps48
 go_wp2
 go_loopw [8,9,20] (fun v8 v9 i wr=>∃ (k:Nat) (st:List W2),k≤rds.length∧i=.int .i64 k∧FtSt (leafIn L) rds w wr v8 v9 k st) (fun _ _ i _=>rds.length - (intOf i).toNat)
 case atStart =>
  exact ⟨0,[],Nat.zero_le _,rfl,⟨by simp,.inl ⟨rfl,rfl⟩⟩,⟨by simp,.inl ⟨rfl,rfl⟩⟩,fun k hk=>by simp [Value.ownBlock] at hk,Below.refl _ _,by simp,(by simp [Hid]:Hid (chkGo (leafIn L) rds 0 []=chkGo (leafIn L) (rds.drop 0) 0 ([]:List W2).reverse)),HW,Nat.le_refl _⟩
 case round =>
  obtain ⟨k,st,hk,rfl,hst⟩:=hrel
  have hbel:=hst.bel
  have hsz:=hbel.size
  by_cases hlt:k<rds.length
  ·obtain ⟨bN,oN,rfl,_,hnd⟩:=hatN k hlt
   obtain ⟨bA,oA,rfl,_,hna⟩:=hatA k hlt
   obtain ⟨c0,c1,c2⟩:=hnd.keep hbel
   have ca:=cell_keep hbel hna
   simp only [List.getElem_map,Nat.mul_one] at c0 c1 c2 ca
   have hpx:=hp rds[k] (List.getElem_mem _)
   clear hatN hatA hnd hna
   have hdrop:=List.drop_eq_getElem_cons hlt
   have hgo0:=hst.hgo
   have hwf0:=hst.wf
   have hstl:=hst.len
   have hsma:=hst.sm
   obtain ⟨x,hx0⟩:∃ x,rds[k]=x:=⟨_,rfl⟩
   rw [hx0] at c0 c1 c2 ca hpx hdrop
   clear hx0
   have zA:=cell_lt ca
   by_cases h400:400≤k
   ·have HT:Hid (RES=some (x.2,1)):=(show _=_ by rw [← HRES.out,hgo0.out,hdrop,chk_long h400])
    have gk:(400:Int)≤k:=by omega
    clear hst hgo0 hwf0 hdrop hpx
    go_wp2
    go_ret2
    exact ⟨by rw [HT.out];rfl,hbel.alloc (by omega) _⟩
   have gk:¬ (400:Int)≤k:=by omega
   by_cases hk1:x.1.kind=15∨x.1.kind=16
   ·have hwl:2≤st.length∧wfN (rds.drop (k+1)) (st.length - 1)=some 1:=by
     have h0:=hwf0.out
     rw [hdrop] at h0
     unfold wfN at h0
     rw [if_pos hk1] at h0
     by_cases h2:2≤st.length
     ·rw [if_pos h2] at h0;exact ⟨h2,h0⟩
     ·rw [if_neg h2] at h0;cases h0
    obtain ⟨st0,p,q,rfl⟩:=last_two st (by omega)
    have HWF:Hid (wfN (rds.drop (k+1)) (st0.length+1)=some 1):=(show _=_ by have:=hwl.2;simpa using this)
    have hstl2:st0.length+2≤k:=by simpa using hstl
    have hpq:Sm p∧Sm q:=⟨hsma p (by simp),hsma q (by simp)⟩
    have hr0:=hst.r0
    have hr1:=hst.r1
    have hap:=hst.ap
    obtain ⟨a8,c8,rfl⟩:=Rw.shape hr0 (st0.length+2) (by simp)
    obtain ⟨a9,c9,rfl⟩:=Rw.shape hr1 (st0.length+2) (by simp)
    obtain ⟨g8,rfl⟩:=Rw.some hr0 (by simp)
    obtain ⟨g9,rfl⟩:=Rw.some hr1 (by simp)
    have d0:=Rw.cell hr0 st0.length (by simp)
    have d1:=Rw.cell hr0 (st0.length+1) (by simp)
    have d2:=Rw.cell hr1 st0.length (by simp)
    have d3:=Rw.cell hr1 (st0.length+1) (by simp)
    simp at d0 d1 d2 d3
    have t0:wr.ownsRow w.heap.size 3 1 (.slice (some ⟨g8,0,none⟩) st0.length c8) st0.length ((st0.map Prod.fst).flatMap iCell):=by
     have h0:wr.ownsRow w.heap.size 3 1 (.slice (some ⟨g8,0,none⟩) (st0.length+2) c8) (st0.length+2) (((st0 ++ [p,q]).map Prod.fst).flatMap iCell):=by have:=hr0;unfold Rw at this;simpa using this
     have h1:=owns_take h0 st0.length (by omega)
     rw [List.map_append,List.flatMap_append,List.take_left' (by have:=flat_length iCell_len (st0.map Prod.fst);simp only [List.length_map] at this;omega)] at h1
     exact h1
    have t1:wr.ownsRow w.heap.size 3 1 (.slice (some ⟨g9,0,none⟩) st0.length c9) st0.length ((st0.map Prod.snd).flatMap iCell):=by
     have h0:wr.ownsRow w.heap.size 3 1 (.slice (some ⟨g9,0,none⟩) (st0.length+2) c9) (st0.length+2) (((st0 ++ [p,q]).map Prod.snd).flatMap iCell):=by have:=hr1;unfold Rw at this;simpa using this
     have h1:=owns_take h0 st0.length (by omega)
     rw [List.map_append,List.flatMap_append,List.take_left' (by have:=flat_length iCell_len (st0.map Prod.snd);simp only [List.length_map] at this;omega)] at h1
     exact h1
    have hc8:st0.length+2≤c8:=by
     rcases hr0.2 with ⟨h',_⟩|⟨g,cap',cur,h',_,_,hc,_⟩
     ·simp at h'
     ·simp at h' hc;omega
    have hc9:st0.length+2≤c9:=by
     rcases hr1.2 with ⟨h',_⟩|⟨g,cap',cur,h',_,_,hc,_⟩
     ·simp at h'
     ·simp at h' hc;omega
    have hapS:Apart (.slice (some ⟨g8,0,none⟩) st0.length c8) (.slice (some ⟨g9,0,none⟩) st0.length c9):=fun j h1 h2=>hap j h1 h2
    have hgo1:∀ y,joinW x.1.kind p q=some y → Hid (chkGo (leafIn L) rds 0 []=chkGo (leafIn L) (rds.drop (k+1)) (k+1) (st0 ++ [y]).reverse):=fun y hy=>(show _=_ by
     rw [hgo0.out,hdrop]
     have e:(st0 ++ [p,q]).reverse=q :: p :: st0.reverse:=by simp
     rw [e,chk_join (by omega) hk1 hy,List.reverse_append];rfl)
    have hgo2:joinW x.1.kind p q=none → Hid (RES=some (x.2,7)):=fun hy=>(show _=_ by
     have e:(st0 ++ [p,q]).reverse=q :: p :: st0.reverse:=by simp
     rw [← HRES.out,hgo0.out,hdrop,e,chk_nojoin (by omega) hk1 hy])
    have HJ:=Lib.hid (And.intro hgo1 hgo2)
    have hsm0:∀ y ∈ st0,Sm y:=fun y hy=>hsma y (by simp [hy])
    obtain ⟨⟨p1,p2,p3,p4⟩,q1,q2,q3,q4⟩:=hpq
    have zg8:=cell_lt d0
    have zg9:=cell_lt d2
    have e4:0≤(st0.length:Int)∧(st0.length:Int)<(st0.length:Int)+2:=by omega
    have e5:0≤(st0.length:Int)+1∧(st0.length:Int)+1<(st0.length:Int)+2:=by omega
    have e6:0≤(st0.length:Int)∧(st0.length:Int)≤(c8:Int):=by omega
    have e7:0≤(st0.length:Int)∧(st0.length:Int)≤(c9:Int):=by omega
    have e1:IntKind.i64.wrap ((st0.length:Int)+1)=(st0.length:Int)+1:=IntWalk.i64_in _ (by omega)
    have e2:((st0.length:Int)+1).toNat=st0.length+1:=by omega
    have e3:IntKind.i64.wrap ((st0.length:Int)+2 - 2)=(st0.length:Int):=by rw [show (st0.length:Int)+2 - 2=(st0.length:Int) by omega];exact IntWalk.i64_in _ (by omega)
    clear hst hgo0 hwf0 hdrop hgo1 hgo2 hwl hstl hsma hr0 hr1 hap hpx
    have hsmY:∀ y,Sm y → ∀ z ∈ st0 ++ [y],Sm z:=fun y hy z hz=>by
     rcases List.mem_append.1 hz with hz|hz
     ·exact hsm0 z hz
     ·simp at hz;subst hz;exact hy
    rcases hk1 with hk1|hk1
    ·have g15:(x.1.kind != 15)=false:=by simp [hk1]
     have g15':(x.1.kind == 15)=true:=by simp [hk1]
     have HK1:=Lib.hid hk1
     clear hk1
     go_wp2_with fail
     go_quiet (fail)
     obtain ⟨W,hW⟩:∃ W,W=(wr.alloc (.cells #[.int .i64 x.1.kind,.int .i64 x.1.value,.string x.1.name] 144)).drewN nq:=⟨_,rfl⟩
     rw [← hW]
     have hb34:Below wr.heap.size wr W:=by rw [hW];exact (alloc_below wr (.cells #[.int .i64 x.1.kind,.int .i64 x.1.value,.string x.1.name] 144)).trans ((below_drewN (Below.refl (wr.alloc (.cells #[.int .i64 x.1.kind,.int .i64 x.1.value,.string x.1.name] 144)).heap.size (wr.alloc (.cells #[.int .i64 x.1.kind,.int .i64 x.1.value,.string x.1.name] 144))) nq).mono (by simp))
     have y0:W.cell? ⟨wr.heap.size,0,none⟩=some (.int .i64 x.1.kind):=by rw [hW];go_simp
     have hbW:Below w.heap.size w W:=hbel.trans (hb34.mono hsz)
     have HR0:=owns_keep hb34 t0
     have HR1:Rw W w.heap.size (.slice (some ⟨g9,0,none⟩) st0.length c9) (st0.map Prod.snd):=by unfold Rw;simpa using owns_keep hb34 t1
     have hapW:=hapS
     replace d0:=cell_keep hb34 d0
     replace d1:=cell_keep hb34 d1
     replace d2:=cell_keep hb34 d2
     replace d3:=cell_keep hb34 d3
     replace ca:=cell_keep hb34 ca
     replace zg8:=cell_lt d0
     replace zg9:=cell_lt d2
     replace zA:=cell_lt ca
     clear hW hb34 t0 t1 hapS
     go_wp2_with fail
     by_cases hpq1:p.2=q.1
     ·have hjn:joinW x.1.kind p q=some (p.1,q.2):=by unfold joinW;rw [if_pos HK1.out,if_pos hpq1]
      have hgoN:=HJ.out.1 _ hjn
      have gne:(p.2 != q.1)=false:=by simp [hpq1]
      have hp12:¬ (12:Int)<p.1:=by omega
      have hq12:¬ (12:Int)<q.2:=by omega
      have hwfN:Hid (wfN (rds.drop (k+1)) (st0 ++ [(p.1,q.2)]).length=some 1):=(show _=_ by have h0:=HWF.out;simpa using h0)
      have hsmN:=hsmY (p.1,q.2) ⟨p1,p2,q3,q4⟩
      clear hpq1 hjn HJ
      go_quiet (fail)
      obtain ⟨W2,hW2⟩:∃ W2,W2=W.drewN nq:=⟨_,rfl⟩
      rw [← hW2]
      have hb5:Below W.heap.size W W2:=by rw [hW2];exact below_drewN (Below.refl _ _) nq
      replace y0:=cell_keep hb5 y0
      replace HR0:=owns_keep hb5 HR0
      replace HR1:=Rw.keep hb5 HR1
      replace hbW:Below w.heap.size w W2:=hbW.trans (hb5.mono hbW.size)
      replace d0:=cell_keep hb5 d0
      replace d1:=cell_keep hb5 d1
      replace d2:=cell_keep hb5 d2
      replace d3:=cell_keep hb5 d3
      replace ca:=cell_keep hb5 ca
      replace zg8:=cell_lt d0
      replace zg9:=cell_lt d2
      replace zA:=cell_lt ca
      clear hW2 hb5
      go_wp2_with fail
      go_quiet (fail)
      obtain ⟨W3,hW3⟩:∃ W3,W3=W2.drewN nq:=⟨_,rfl⟩
      rw [← hW3]
      have hb5:Below W2.heap.size W2 W3:=by rw [hW3];exact below_drewN (Below.refl _ _) nq
      replace y0:=cell_keep hb5 y0
      replace HR0:=owns_keep hb5 HR0
      replace HR1:=Rw.keep hb5 HR1
      replace hbW:Below w.heap.size w W3:=hbW.trans (hb5.mono hbW.size)
      replace d0:=cell_keep hb5 d0
      replace d1:=cell_keep hb5 d1
      replace d2:=cell_keep hb5 d2
      replace d3:=cell_keep hb5 d3
      replace ca:=cell_keep hb5 ca
      replace zg8:=cell_lt d0
      replace zg9:=cell_lt d2
      replace zA:=cell_lt ca
      clear hW3 hb5
      have hWsz:=hbW.size
      go_wp2_with (at_builtin;refine wpList_append_src rfl (.tmp 143) (.tmp 145) 40 rfl w.heap.size 3 i0 _ 1 8 Tryz.underlying40 hi hz0 hz1 hz2 rfl (by decide) (.slice (some ⟨g8,0,none⟩) st0.length c8) st0.length ((st0.map Prod.fst).flatMap iCell) rfl (owns_keep (alloc_below _ _) HR0) (.slice (some ⟨W3.heap.size,0,none⟩) 1 1) 1 (iCell (p.1)) rfl ?d1 ?d2 (by unfold maxLen;omega) (by omega) (by simp;omega) ?_)
      case d1 =>
       refine ⟨rfl,.inr ⟨_,1,rfl,?_⟩⟩
       intro j u hj
       match j,hj with
       | 0,hj=>simp [iCell] at hj;subst hj;simp [Addr.add]
      case d2=>intro u hu;simp [iCell] at hu;subst hu;rfl
      intro v5 w5 hown5 hgr5 ho5
      have h5:Rw w5 w.heap.size v5 ((st0.map Prod.fst) ++ [p.1]):=by
       unfold Rw
       rw [List.length_append,List.flatMap_append]
       simpa using hown5
      have h59:Rw w5 w.heap.size (.slice (some ⟨g9,0,none⟩) st0.length c9) (st0.map Prod.snd):=Rw.grown (Rw.keep (alloc_below W3 (.cells #[.int .i64 (p.1)] 3)) HR1) hgr5 (fun k hk e=>hapW k e hk)
      have hap5:Apart v5 (.slice (some ⟨g9,0,none⟩) st0.length c9):=apart_grown hapW (Rw.keep (alloc_below W3 (.cells #[.int .i64 (p.1)] 3)) HR1) (by simpa using ho5)
      obtain ⟨a5,c5,rfl⟩:=Rw.shape h5 (st0.length+1) (by simp)
      have hb5:Below w.heap.size W3 w5:=((alloc_below W3 (.cells #[.int .i64 (p.1)] 3)).mono hWsz).grown hgr5 (by simp;omega) (fun j hj=>(World.ownsRow.lt HR0 j hj).1)
      have hz5:=hb5.size
      clear hown5 hgr5 ho5
      go_wp2_with (at_builtin;refine wpList_append_src rfl (.tmp 149) (.tmp 151) 40 rfl w.heap.size 3 i0 _ 1 8 Tryz.underlying40 hi hz0 hz1 hz2 rfl (by decide) (.slice (some ⟨g9,0,none⟩) st0.length c9) st0.length ((st0.map Prod.snd).flatMap iCell) rfl (owns_keep (alloc_below _ _) (show w5.ownsRow w.heap.size 3 1 (.slice (some ⟨g9,0,none⟩) st0.length c9) st0.length ((st0.map Prod.snd).flatMap iCell) by have:=h59;unfold Rw at this;simpa using this)) (.slice (some ⟨w5.heap.size,0,none⟩) 1 1) 1 (iCell (q.2)) rfl ?d1 ?d2 (by unfold maxLen;omega) (by omega) (by simp;omega) ?_)
      case d1 =>
       refine ⟨rfl,.inr ⟨_,1,rfl,?_⟩⟩
       intro j u hj
       match j,hj with
       | 0,hj=>simp [iCell] at hj;subst hj;simp [Addr.add]
      case d2=>intro u hu;simp [iCell] at hu;subst hu;rfl
      intro v6 w6 hown6 hgr6 ho6
      have h6:Rw w6 w.heap.size v6 ((st0.map Prod.snd) ++ [q.2]):=by
       unfold Rw
       rw [List.length_append,List.flatMap_append]
       simpa using hown6
      have h65:Rw w6 w.heap.size (.slice a5 (st0.length+1) c5) ((st0.map Prod.fst) ++ [p.1]):=Rw.grown (Rw.keep (alloc_below w5 (.cells #[.int .i64 (q.2)] 3)) h5) hgr6 (fun k hk e=>hap5 k hk e)
      have hap6:Apart (.slice a5 (st0.length+1) c5) v6:=(apart_grown hap5.symm (Rw.keep (alloc_below w5 (.cells #[.int .i64 (q.2)] 3)) h5) (by simpa using ho6)).symm
      have hb6:Below w.heap.size w5 w6:=((alloc_below w5 (.cells #[.int .i64 (q.2)] 3)).mono (by omega)).grown hgr6 (by simp;omega) (fun j hj=>(World.ownsRow.lt h59 j hj).1)
      have hst6:FtSt (leafIn L) rds w w6 (.slice a5 (st0.length+1) c5) v6 (k+1) (st0 ++ [(p.1,q.2)]):=⟨by simpa using h65,by simpa using h6,hap6,hbW.trans (hb5.trans hb6),hsmN,hgoN,hwfN,by simp;omega⟩
      clear hown6 hgr6 ho6 h6 h65 hap6 hb6 h5 h59 hap5 hb5 HR0 HR1 hapW hbW hgoN hwfN hsmN
      go_wp2
      go_roundw
      case rel=>exact ⟨k+1,_,by omega,by go_num,hst6⟩
      case measure=>simp [intOf];omega
     ·have HT:=HJ.out.2 (by unfold joinW;rw [if_pos HK1.out,if_neg hpq1])
      have gne:(p.2 != q.1)=true:=by simp [hpq1]
      clear hpq1 HJ
      go_quiet (fail)
      obtain ⟨W2,hW2⟩:∃ W2,W2=W.drewN nq:=⟨_,rfl⟩
      rw [← hW2]
      have hb5:Below W.heap.size W W2:=by rw [hW2];exact below_drewN (Below.refl _ _) nq
      replace y0:=cell_keep hb5 y0
      replace HR0:=owns_keep hb5 HR0
      replace HR1:=Rw.keep hb5 HR1
      replace hbW:Below w.heap.size w W2:=hbW.trans (hb5.mono hbW.size)
      replace d0:=cell_keep hb5 d0
      replace d1:=cell_keep hb5 d1
      replace d2:=cell_keep hb5 d2
      replace d3:=cell_keep hb5 d3
      replace ca:=cell_keep hb5 ca
      replace zg8:=cell_lt d0
      replace zg9:=cell_lt d2
      replace zA:=cell_lt ca
      clear hW2 hb5
      go_wp2
      go_ret2
      exact ⟨by rw [HT.out];rfl,hbW⟩
    ·have g15:(x.1.kind != 15)=true:=by simp [hk1]
     have g16:(x.1.kind != 16)=false:=by simp [hk1]
     have g15':(x.1.kind == 15)=false:=by simp [hk1]
     have HK1:Hid (x.1.kind ≠ 15):=(show _ ≠ _ by omega)
     clear hk1
     go_wp2_with fail
     go_quiet (fail)
     obtain ⟨W,hW⟩:∃ W,W=(wr.alloc (.cells #[.int .i64 x.1.kind,.int .i64 x.1.value,.string x.1.name] 144)).drewN nq:=⟨_,rfl⟩
     rw [← hW]
     have hb34:Below wr.heap.size wr W:=by rw [hW];exact (alloc_below wr (.cells #[.int .i64 x.1.kind,.int .i64 x.1.value,.string x.1.name] 144)).trans ((below_drewN (Below.refl (wr.alloc (.cells #[.int .i64 x.1.kind,.int .i64 x.1.value,.string x.1.name] 144)).heap.size (wr.alloc (.cells #[.int .i64 x.1.kind,.int .i64 x.1.value,.string x.1.name] 144))) nq).mono (by simp))
     have y0:W.cell? ⟨wr.heap.size,0,none⟩=some (.int .i64 x.1.kind):=by rw [hW];go_simp
     have hbW:Below w.heap.size w W:=hbel.trans (hb34.mono hsz)
     have HR0:=owns_keep hb34 t0
     have HR1:Rw W w.heap.size (.slice (some ⟨g9,0,none⟩) st0.length c9) (st0.map Prod.snd):=by unfold Rw;simpa using owns_keep hb34 t1
     have hapW:=hapS
     replace d0:=cell_keep hb34 d0
     replace d1:=cell_keep hb34 d1
     replace d2:=cell_keep hb34 d2
     replace d3:=cell_keep hb34 d3
     replace ca:=cell_keep hb34 ca
     replace zg8:=cell_lt d0
     replace zg9:=cell_lt d2
     replace zA:=cell_lt ca
     clear hW hb34 t0 t1 hapS
     by_cases h12:p.1+q.1≤12∧p.2+q.2≤12
     ·have hjn:joinW x.1.kind p q=some (p.1+q.1,p.2+q.2):=by unfold joinW;rw [if_neg HK1.out,if_pos h12]
      have hgoN:=HJ.out.1 _ hjn
      have hp12:¬ (12:Int)<p.1+q.1:=by omega
      have hq12:¬ (12:Int)<p.2+q.2:=by omega
      have hwfN:Hid (wfN (rds.drop (k+1)) (st0 ++ [(p.1+q.1,p.2+q.2)]).length=some 1):=(show _=_ by have h0:=HWF.out;simpa using h0)
      have hsmN:=hsmY (p.1+q.1,p.2+q.2) ⟨by simp;omega,h12.1,by simp;omega,h12.2⟩
      clear h12 hjn HJ
      have hWsz:=hbW.size
      go_wp2_with (at_builtin;refine wpList_append_src rfl (.tmp 143) (.tmp 145) 40 rfl w.heap.size 3 i0 _ 1 8 Tryz.underlying40 hi hz0 hz1 hz2 rfl (by decide) (.slice (some ⟨g8,0,none⟩) st0.length c8) st0.length ((st0.map Prod.fst).flatMap iCell) rfl (owns_keep (alloc_below _ _) HR0) (.slice (some ⟨W.heap.size,0,none⟩) 1 1) 1 (iCell (p.1+q.1)) rfl ?d1 ?d2 (by unfold maxLen;omega) (by omega) (by simp;omega) ?_)
      case d1 =>
       refine ⟨rfl,.inr ⟨_,1,rfl,?_⟩⟩
       intro j u hj
       match j,hj with
       | 0,hj=>simp [iCell] at hj;subst hj;simp [Addr.add]
      case d2=>intro u hu;simp [iCell] at hu;subst hu;rfl
      intro v5 w5 hown5 hgr5 ho5
      have h5:Rw w5 w.heap.size v5 ((st0.map Prod.fst) ++ [p.1+q.1]):=by
       unfold Rw
       rw [List.length_append,List.flatMap_append]
       simpa using hown5
      have h59:Rw w5 w.heap.size (.slice (some ⟨g9,0,none⟩) st0.length c9) (st0.map Prod.snd):=Rw.grown (Rw.keep (alloc_below W (.cells #[.int .i64 (p.1+q.1)] 3)) HR1) hgr5 (fun k hk e=>hapW k e hk)
      have hap5:Apart v5 (.slice (some ⟨g9,0,none⟩) st0.length c9):=apart_grown hapW (Rw.keep (alloc_below W (.cells #[.int .i64 (p.1+q.1)] 3)) HR1) (by simpa using ho5)
      obtain ⟨a5,c5,rfl⟩:=Rw.shape h5 (st0.length+1) (by simp)
      have hb5:Below w.heap.size W w5:=((alloc_below W (.cells #[.int .i64 (p.1+q.1)] 3)).mono hWsz).grown hgr5 (by simp;omega) (fun j hj=>(World.ownsRow.lt HR0 j hj).1)
      have hz5:=hb5.size
      clear hown5 hgr5 ho5
      go_wp2_with (at_builtin;refine wpList_append_src rfl (.tmp 149) (.tmp 151) 40 rfl w.heap.size 3 i0 _ 1 8 Tryz.underlying40 hi hz0 hz1 hz2 rfl (by decide) (.slice (some ⟨g9,0,none⟩) st0.length c9) st0.length ((st0.map Prod.snd).flatMap iCell) rfl (owns_keep (alloc_below _ _) (show w5.ownsRow w.heap.size 3 1 (.slice (some ⟨g9,0,none⟩) st0.length c9) st0.length ((st0.map Prod.snd).flatMap iCell) by have:=h59;unfold Rw at this;simpa using this)) (.slice (some ⟨w5.heap.size,0,none⟩) 1 1) 1 (iCell (p.2+q.2)) rfl ?d1 ?d2 (by unfold maxLen;omega) (by omega) (by simp;omega) ?_)
      case d1 =>
       refine ⟨rfl,.inr ⟨_,1,rfl,?_⟩⟩
       intro j u hj
       match j,hj with
       | 0,hj=>simp [iCell] at hj;subst hj;simp [Addr.add]
      case d2=>intro u hu;simp [iCell] at hu;subst hu;rfl
      intro v6 w6 hown6 hgr6 ho6
      have h6:Rw w6 w.heap.size v6 ((st0.map Prod.snd) ++ [p.2+q.2]):=by
       unfold Rw
       rw [List.length_append,List.flatMap_append]
       simpa using hown6
      have h65:Rw w6 w.heap.size (.slice a5 (st0.length+1) c5) ((st0.map Prod.fst) ++ [p.1+q.1]):=Rw.grown (Rw.keep (alloc_below w5 (.cells #[.int .i64 (p.2+q.2)] 3)) h5) hgr6 (fun k hk e=>hap5 k hk e)
      have hap6:Apart (.slice a5 (st0.length+1) c5) v6:=(apart_grown hap5.symm (Rw.keep (alloc_below w5 (.cells #[.int .i64 (p.2+q.2)] 3)) h5) (by simpa using ho6)).symm
      have hb6:Below w.heap.size w5 w6:=((alloc_below w5 (.cells #[.int .i64 (p.2+q.2)] 3)).mono (by omega)).grown hgr6 (by simp;omega) (fun j hj=>(World.ownsRow.lt h59 j hj).1)
      have hst6:FtSt (leafIn L) rds w w6 (.slice a5 (st0.length+1) c5) v6 (k+1) (st0 ++ [(p.1+q.1,p.2+q.2)]):=⟨by simpa using h65,by simpa using h6,hap6,hbW.trans (hb5.trans hb6),hsmN,hgoN,hwfN,by simp;omega⟩
      clear hown6 hgr6 ho6 h6 h65 hap6 hb6 h5 h59 hap5 hb5 HR0 HR1 hapW hbW hgoN hwfN hsmN
      go_wp2
      go_roundw
      case rel=>exact ⟨k+1,_,by omega,by go_num,hst6⟩
      case measure=>simp [intOf];omega
     ·have HT:=HJ.out.2 (by unfold joinW;rw [if_neg HK1.out,if_neg h12])
      have hcs:(12:Int)<p.1+q.1∨(¬ (12:Int)<p.1+q.1∧(12:Int)<p.2+q.2):=by omega
      clear h12 HJ
      rcases hcs with h12|⟨h12,h13⟩
      all_goals
       go_wp2
       go_ret2
       exact ⟨by rw [HT.out];rfl,hbW⟩
   ·have g15:(x.1.kind != 15)=true:=by simp;omega
    have g16:(x.1.kind != 16)=true:=by simp;omega
    have hwfN:Hid (wfN (rds.drop (k+1)) (st.length+1)=some 1):=(show _=_ by
     have h0:=hwf0.out
     rw [hdrop] at h0
     unfold wfN at h0
     rwa [if_neg hk1] at h0)
    have hr0:=hst.r0
    have hr1:=hst.r1
    have hap:=hst.ap
    obtain ⟨a8,c8,rfl⟩:=Rw.shape hr0 st.length (by simp)
    obtain ⟨a9,c9,rfl⟩:=Rw.shape hr1 st.length (by simp)
    have hr0R:wr.ownsRow w.heap.size 3 1 (.slice a8 st.length c8) st.length ((st.map Prod.fst).flatMap iCell):=by have:=hr0;unfold Rw at this;simpa using this
    have hr1R:wr.ownsRow w.heap.size 3 1 (.slice a9 st.length c9) st.length ((st.map Prod.snd).flatMap iCell):=by have:=hr1;unfold Rw at this;simpa using this
    have hgoX:∀ y:W2,leafIn L x.1=some y → Hid (chkGo (leafIn L) rds 0 []=chkGo (leafIn L) (rds.drop (k+1)) (k+1) (st ++ [y]).reverse):=fun y hy=>(show _=_ by
     rw [hgo0.out,hdrop,chk_leaf (by omega) hk1 hy,List.reverse_append];rfl)
    have hnoX:leafIn L x.1=none → Hid (RES=some (x.2,if x.1.kind=17 then 5 else 6)):=fun hy=>(show _=_ by rw [← HRES.out,hgo0.out,hdrop,chk_noleaf (by omega) hk1 hy])
    have HGO:=Lib.hid (And.intro hgoX hnoX)
    have HWF:=hwfN
    clear hst hgo0 hwf0 hdrop hgoX hnoX hk1 hwfN
    by_cases h17:x.1.kind=17
    ·have hlf:=leafIn_name (L:=L) h17 (hpx.val h17)
     have g17:(x.1.kind == 17)=true:=by simp [h17]
     rcases findFrom_cases x.1.name L 0 with ⟨f1,f2⟩|⟨i,hi2,f1,f2⟩
     ·have HT:Hid (RES=some (x.2,5)):=(show _=_ by have:=HGO.out.2 (by rw [hlf,f2];rfl);rw [this.out,if_pos h17])
      have HF:=Lib.hid f1
      clear f1 f2 hlf h17 hpx HGO
      go_wp2_with (go_at_call 105;refine (lbFind_any _ L _ _ (hv.keep (hbel.alloc hsz _)) hn).mono ?_;rintro e w3 ⟨rfl,hb3⟩;rw [HF.out];have ya:=cell_keep hb3 (alloc_keep ca _);have z3:=hb3.size;simp only [World.size_alloc] at z3)
      go_ret2
      exact ⟨by rw [HT.out];rfl,(hbel.alloc (by omega) _).trans (hb3.mono (by simp;omega))⟩
     ·rw [Nat.zero_add] at f1
      have hgoN:=HGO.out.1 (L[i].inn,L[i].out) (by rw [hlf,f2];rfl)
      have hsx:=hsm L[i] (List.getElem_mem _)
      have HF:=Lib.hid f1
      have hi3:¬ ((i:Int)<0):=by omega
      have hiL:(i:Int)<L.length:=by omega
      have hi0:(0:Int)≤i:=by omega
      clear f1 f2 hlf h17 hpx HGO
      obtain ⟨aL,capL,haL,hcL,hatL⟩:=id hv
      obtain ⟨bL,oL,rfl,_,hdL⟩:=hatL i hi2
      simp only [Value.slice.injEq] at haL
      obtain ⟨rfl,_,rfl⟩:=haL
      clear hatL
      go_wp2_with (go_at_call 105;refine (lbFind_any _ L _ _ (hv.keep (hbel.alloc hsz _)) hn).mono ?_;rintro e w3 ⟨rfl,hb3⟩;rw [HF.out];have z3:=hb3.size;simp only [World.size_alloc] at z3;obtain ⟨l0,l1,l2,_⟩:=(hdL.keep (hbel.alloc hsz (.cells #[.int .i64 x.1.kind,.int .i64 x.1.value,.string x.1.name] 144))).keep hb3)
      go_quiet (fail)
      have hb4:Below w3.heap.size w3 (w3.drewN nq):=below_drewN (Below.refl w3.heap.size w3) nq
      obtain ⟨W,hW⟩:∃ W,W=w3.drewN nq:=⟨_,rfl⟩
      rw [← hW] at hb4 ⊢
      have hb34:Below wr.heap.size wr W:=(alloc_below wr (.cells #[.int .i64 x.1.kind,.int .i64 x.1.value,.string x.1.name] 144)).trans ((hb3.trans (hb4.mono (by simpa using z3))).mono (by simp))
      have hbW:Below w.heap.size w W:=hbel.trans (hb34.mono hsz)
      have HR0:=owns_keep hb34 hr0R
      have HR1:Rw W w.heap.size (.slice a9 st.length c9) (st.map Prod.snd):=Rw.keep hb34 hr1
      have hapW:=hap
      have hwfN:=HWF
      rw [show st.length+1=(st ++ [(L[i].inn,L[i].out)]).length by simp] at hwfN
      have hsmN:∀ y ∈ st ++ [(L[i].inn,L[i].out)],Sm y:=fun y hy=>by
       rcases List.mem_append.1 hy with hy|hy
       ·exact hsma y hy
       ·simp at hy;subst hy;exact hsx
      clear hW hb3 hb4 hb34 l0 l1 l2 hr0 hr1 hr0R hr1R hap
      have hWsz:=hbW.size
      go_wp2_with (at_builtin;refine wpList_append_src rfl (.tmp 74) (.tmp 76) 40 rfl w.heap.size 3 i0 _ 1 8 Tryz.underlying40 hi hz0 hz1 hz2 rfl (by decide) (.slice a8 st.length c8) st.length ((st.map Prod.fst).flatMap iCell) rfl (owns_keep (alloc_below _ _) HR0) (.slice (some ⟨W.heap.size,0,none⟩) 1 1) 1 (iCell (L[i].inn)) rfl ?d1 ?d2 (by unfold maxLen;omega) (by omega) (by simp;omega) ?_)
      case d1 =>
       refine ⟨rfl,.inr ⟨_,1,rfl,?_⟩⟩
       intro j u hj
       match j,hj with
       | 0,hj=>simp [iCell] at hj;subst hj;simp [Addr.add]
      case d2=>intro u hu;simp [iCell] at hu;subst hu;rfl
      intro v5 w5 hown5 hgr5 ho5
      have h5:Rw w5 w.heap.size v5 ((st.map Prod.fst) ++ [L[i].inn]):=by
       unfold Rw
       rw [List.length_append,List.flatMap_append]
       simpa using hown5
      have h59:Rw w5 w.heap.size (.slice a9 st.length c9) (st.map Prod.snd):=Rw.grown (Rw.keep (alloc_below W (.cells #[.int .i64 (L[i].inn)] 3)) HR1) hgr5 (fun k hk e=>hapW k e hk)
      have hap5:Apart v5 (.slice a9 st.length c9):=apart_grown hapW (Rw.keep (alloc_below W (.cells #[.int .i64 (L[i].inn)] 3)) HR1) (by simpa using ho5)
      obtain ⟨a5,c5,rfl⟩:=Rw.shape h5 (st.length+1) (by simp)
      have hb5:Below w.heap.size W w5:=((alloc_below W (.cells #[.int .i64 (L[i].inn)] 3)).mono hWsz).grown hgr5 (by simp;omega) (fun j hj=>(World.ownsRow.lt HR0 j hj).1)
      have hz5:=hb5.size
      clear hown5 hgr5 ho5
      go_wp2_with (at_builtin;refine wpList_append_src rfl (.tmp 78) (.tmp 80) 40 rfl w.heap.size 3 i0 _ 1 8 Tryz.underlying40 hi hz0 hz1 hz2 rfl (by decide) (.slice a9 st.length c9) st.length ((st.map Prod.snd).flatMap iCell) rfl (owns_keep (alloc_below _ _) (show w5.ownsRow w.heap.size 3 1 (.slice a9 st.length c9) st.length ((st.map Prod.snd).flatMap iCell) by have:=h59;unfold Rw at this;simpa using this)) (.slice (some ⟨w5.heap.size,0,none⟩) 1 1) 1 (iCell (L[i].out)) rfl ?d1 ?d2 (by unfold maxLen;omega) (by omega) (by simp;omega) ?_)
      case d1 =>
       refine ⟨rfl,.inr ⟨_,1,rfl,?_⟩⟩
       intro j u hj
       match j,hj with
       | 0,hj=>simp [iCell] at hj;subst hj;simp [Addr.add]
      case d2=>intro u hu;simp [iCell] at hu;subst hu;rfl
      intro v6 w6 hown6 hgr6 ho6
      have h6:Rw w6 w.heap.size v6 ((st.map Prod.snd) ++ [L[i].out]):=by
       unfold Rw
       rw [List.length_append,List.flatMap_append]
       simpa using hown6
      have h65:Rw w6 w.heap.size (.slice a5 (st.length+1) c5) ((st.map Prod.fst) ++ [L[i].inn]):=Rw.grown (Rw.keep (alloc_below w5 (.cells #[.int .i64 (L[i].out)] 3)) h5) hgr6 (fun k hk e=>hap5 k hk e)
      have hap6:Apart (.slice a5 (st.length+1) c5) v6:=(apart_grown hap5.symm (Rw.keep (alloc_below w5 (.cells #[.int .i64 (L[i].out)] 3)) h5) (by simpa using ho6)).symm
      have hb6:Below w.heap.size w5 w6:=((alloc_below w5 (.cells #[.int .i64 (L[i].out)] 3)).mono (by omega)).grown hgr6 (by simp;omega) (fun j hj=>(World.ownsRow.lt h59 j hj).1)
      have hst6:FtSt (leafIn L) rds w w6 (.slice a5 (st.length+1) c5) v6 (k+1) (st ++ [(L[i].inn,L[i].out)]):=⟨by simpa using h65,by simpa using h6,hap6,hbW.trans (hb5.trans hb6),hsmN,hgoN,hwfN,by simp;omega⟩
      clear hown6 hgr6 ho6 h6 h65 hap6 hb6 h5 h59 hap5 hb5 HR0 HR1 hapW hbW hgoN hwfN hsmN
      go_wp2
      go_roundw
      case rel=>exact ⟨k+1,_,by omega,by go_num,hst6⟩
      case measure=>simp [intOf];omega
    ·have hlf:=leafIn_other (L:=L) h17
     have g17:(x.1.kind == 17)=false:=by simp [h17]
     cases hlB:leafB x.1
     ·have HT:Hid (RES=some (x.2,6)):=(show _=_ by have:=HGO.out.2 (by rw [hlf,hlB];rfl);rw [this.out,if_neg h17])
      have HF:=Lib.hid hlB
      clear hlB hlf h17 hpx HGO
      go_wp2_with (go_at_call 106;refine (tmLeaf_any x.1 _).mono ?_;rintro e w3 ⟨rfl,hb3⟩;rw [HF.out];have ya:=cell_keep hb3 (alloc_keep ca _);have z3:=hb3.size;simp only [World.size_alloc] at z3)
      go_ret2
      exact ⟨by rw [HT.out];rfl,(hbel.alloc (by omega) _).trans (hb3.mono (by simp;omega))⟩
     ·have hgoN:=HGO.out.1 (arityW x.1) (by rw [hlf,hlB];rfl)
      have hsx:=arityW_sm hlB
      have HF:=Lib.hid hlB
      clear hlB hlf h17 hpx HGO
      go_wp2_with (first|(go_at_call 106;refine (tmLeaf_any x.1 _).mono ?_;rintro e w3 ⟨rfl,hb3⟩;rw [HF.out];have z3:=hb3.size;simp only [World.size_alloc] at z3;have y0:=cell_keep hb3 (show (wr.alloc (.cells #[.int .i64 x.1.kind,.int .i64 x.1.value,.string x.1.name] 144)).cell? ⟨wr.heap.size,0,none⟩=some (.int .i64 x.1.kind) by simp);have y1:=cell_keep hb3 (show (wr.alloc (.cells #[.int .i64 x.1.kind,.int .i64 x.1.value,.string x.1.name] 144)).cell? ⟨wr.heap.size,1,none⟩=some (.int .i64 x.1.value) by simp);have y2:=cell_keep hb3 (show (wr.alloc (.cells #[.int .i64 x.1.kind,.int .i64 x.1.value,.string x.1.name] 144)).cell? ⟨wr.heap.size,2,none⟩=some (.string x.1.name) by simp))|(go_at_call 107;refine (tmArity_any x.1 _).mono ?_;rintro e W ⟨rfl,hb4⟩;have hb34:Below wr.heap.size wr W:=(alloc_below wr (.cells #[.int .i64 x.1.kind,.int .i64 x.1.value,.string x.1.name] 144)).trans ((hb3.trans (hb4.mono (by simpa using z3))).mono (by simp));have hbW:Below w.heap.size w W:=hbel.trans (hb34.mono hsz);have HR0:=owns_keep hb34 hr0R;have HR1:Rw W w.heap.size (.slice a9 st.length c9) (st.map Prod.snd):=Rw.keep hb34 hr1;have hapW:=hap;clear hb3 hb4 hb34 y0 y1 y2 z3 hr0 hr1 hr0R hr1R hap;have hWsz:=hbW.size)|(at_builtin;refine wpList_append_src rfl (.tmp 74) (.tmp 76) 40 rfl w.heap.size 3 i0 _ 1 8 Tryz.underlying40 hi hz0 hz1 hz2 rfl (by decide) (.slice a8 st.length c8) st.length ((st.map Prod.fst).flatMap iCell) rfl (owns_keep (alloc_below _ _) HR0) (.slice (some ⟨W.heap.size,0,none⟩) 1 1) 1 (iCell ((arityW x.1).1)) rfl ?d1 ?d2 (by unfold maxLen;omega) (by omega) (by simp;omega) ?_))
      case d1 =>
       refine ⟨rfl,.inr ⟨_,1,rfl,?_⟩⟩
       intro j u hj
       match j,hj with
       | 0,hj=>simp [iCell] at hj;subst hj;simp [Addr.add]
      case d2=>intro u hu;simp [iCell] at hu;subst hu;rfl
      have hwfN:=HWF
      rw [show st.length+1=(st ++ [arityW x.1]).length by simp] at hwfN
      have hsmN:∀ y ∈ st ++ [((arityW x.1).1,(arityW x.1).2)],Sm y:=fun y hy=>by
       rcases List.mem_append.1 hy with hy|hy
       ·exact hsma y hy
       ·simp at hy;subst hy;exact hsx
      intro v5 w5 hown5 hgr5 ho5
      have h5:Rw w5 w.heap.size v5 ((st.map Prod.fst) ++ [(arityW x.1).1]):=by
       unfold Rw
       rw [List.length_append,List.flatMap_append]
       simpa using hown5
      have h59:Rw w5 w.heap.size (.slice a9 st.length c9) (st.map Prod.snd):=Rw.grown (Rw.keep (alloc_below W (.cells #[.int .i64 ((arityW x.1).1)] 3)) HR1) hgr5 (fun k hk e=>hapW k e hk)
      have hap5:Apart v5 (.slice a9 st.length c9):=apart_grown hapW (Rw.keep (alloc_below W (.cells #[.int .i64 ((arityW x.1).1)] 3)) HR1) (by simpa using ho5)
      obtain ⟨a5,c5,rfl⟩:=Rw.shape h5 (st.length+1) (by simp)
      have hb5:Below w.heap.size W w5:=((alloc_below W (.cells #[.int .i64 ((arityW x.1).1)] 3)).mono hWsz).grown hgr5 (by simp;omega) (fun j hj=>(World.ownsRow.lt HR0 j hj).1)
      have hz5:=hb5.size
      clear hown5 hgr5 ho5
      go_wp2_with (at_builtin;refine wpList_append_src rfl (.tmp 78) (.tmp 80) 40 rfl w.heap.size 3 i0 _ 1 8 Tryz.underlying40 hi hz0 hz1 hz2 rfl (by decide) (.slice a9 st.length c9) st.length ((st.map Prod.snd).flatMap iCell) rfl (owns_keep (alloc_below _ _) (show w5.ownsRow w.heap.size 3 1 (.slice a9 st.length c9) st.length ((st.map Prod.snd).flatMap iCell) by have:=h59;unfold Rw at this;simpa using this)) (.slice (some ⟨w5.heap.size,0,none⟩) 1 1) 1 (iCell ((arityW x.1).2)) rfl ?d1 ?d2 (by unfold maxLen;omega) (by omega) (by simp;omega) ?_)
      case d1 =>
       refine ⟨rfl,.inr ⟨_,1,rfl,?_⟩⟩
       intro j u hj
       match j,hj with
       | 0,hj=>simp [iCell] at hj;subst hj;simp [Addr.add]
      case d2=>intro u hu;simp [iCell] at hu;subst hu;rfl
      intro v6 w6 hown6 hgr6 ho6
      have h6:Rw w6 w.heap.size v6 ((st.map Prod.snd) ++ [(arityW x.1).2]):=by
       unfold Rw
       rw [List.length_append,List.flatMap_append]
       simpa using hown6
      have h65:Rw w6 w.heap.size (.slice a5 (st.length+1) c5) ((st.map Prod.fst) ++ [(arityW x.1).1]):=Rw.grown (Rw.keep (alloc_below w5 (.cells #[.int .i64 ((arityW x.1).2)] 3)) h5) hgr6 (fun k hk e=>hap5 k hk e)
      have hap6:Apart (.slice a5 (st.length+1) c5) v6:=(apart_grown hap5.symm (Rw.keep (alloc_below w5 (.cells #[.int .i64 ((arityW x.1).2)] 3)) h5) (by simpa using ho6)).symm
      have hb6:Below w.heap.size w5 w6:=((alloc_below w5 (.cells #[.int .i64 ((arityW x.1).2)] 3)).mono (by omega)).grown hgr6 (by simp;omega) (fun j hj=>(World.ownsRow.lt h59 j hj).1)
      have hst6:FtSt (leafIn L) rds w w6 (.slice a5 (st.length+1) c5) v6 (k+1) (st ++ [((arityW x.1).1,(arityW x.1).2)]):=⟨by simpa using h65,by simpa using h6,hap6,hbW.trans (hb5.trans hb6),hsmN,hgoN,hwfN,by simp;omega⟩
      clear hown6 hgr6 ho6 h6 h65 hap6 hb6 h5 h59 hap5 hb5 HR0 HR1 hapW hbW hgoN hwfN hsmN
      go_wp2
      go_roundw
      case rel=>exact ⟨k+1,_,by omega,by go_num,hst6⟩
      case measure=>simp [intOf];omega
  ·go_wp2
   go_ret2
   have hT:RES=none:=by rw [← HRES.out,hst.hgo.out,List.drop_eq_nil_of_le (by omega)];rfl
   exact ⟨by rw [hT];rfl,hbel⟩
end Go.Proofs.YtbljmfcifljkaaaGreatDoor

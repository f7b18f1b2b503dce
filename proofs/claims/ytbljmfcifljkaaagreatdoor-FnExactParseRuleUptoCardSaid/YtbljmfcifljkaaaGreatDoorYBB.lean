/-
  The program's parser: its state, and its small methods. Own work.
-/
import Derived.Test.YtbljmfcifljkaaaGreatDoorYAA
import Derived.Test.YtbljmfcifljkaaaGreatDoorYC
import Derived.Test.YtbljmfcifljkaaaGreatDoorYB
import Derived.Test.YtbljmfcifljkaaaGreatDoorYT
set_option linter.all false
set_option maxRecDepth 100000
set_option maxHeartbeats 8000000
namespace Go.Proofs.YtbljmfcifljkaaaGreatDoor
open Go.RowKit
def TkAt (w:World) (t:Tk) (b o:Nat):Prop :=
 w.cell? ⟨b,o,none⟩=some (.int .i64 t.kind)∧w.cell? ⟨b,o+1,none⟩=some (.string t.text)∧w.cell? ⟨b,o+2,none⟩=some (.int .i64 t.pos)
def TksAt (w:World) (v:Value) (ts:List Tk):Prop:=TksOk ts∧SlAt 3 v ts.length fun i b o=>∃ h:i<ts.length,TkAt w ts[i] b o
theorem TkAt.keep {w w':World} (hb:Below w.heap.size w w') {t:Tk} {b o:Nat} (h:TkAt w t b o):TkAt w' t b o:=⟨cell_keep hb h.1,cell_keep hb h.2.1,cell_keep hb h.2.2⟩
theorem TksAt.keep {w w':World} (hb:Below w.heap.size w w') {v:Value} {ts:List Tk} (h:TksAt w v ts):TksAt w' v ts :=
 ⟨h.1,SlAt.mono h.2 fun _ _ _ ⟨hi,r⟩=>⟨hi,r.keep hb⟩⟩
theorem TksAt.shape {w:World} {v:Value} {ts:List Tk} (h:TksAt w v ts):∃ a c,v=.slice a ts.length c∧ts.length≤c:=by
 obtain ⟨_,a,cap,rfl,hc,_⟩:=h;exact ⟨a,cap,rfl,hc⟩
theorem TksAt.head {w:World} {v:Value} {t:Tk} {r:List Tk} (h:TksAt w v (t :: r)):∃ b o c,v=.slice (some ⟨b,o,none⟩) (r.length+1) c∧r.length+1≤c∧TkAt w t b o:=by
 obtain ⟨_,a,cap,rfl,hc,hat⟩:=h
 obtain ⟨b,o,rfl,hi,hr⟩:=hat 0 (by simp)
 exact ⟨b,o,cap,rfl,by simpa using hc,by simpa using hr⟩
theorem TksAt.tail {w:World} {b o c:Nat} {t:Tk} {r:List Tk} (h:TksAt w (.slice (some ⟨b,o,none⟩) (r.length+1) c) (t :: r)) (a:Option Addr) (ha:r ≠ [] → a=some ⟨b,o+3,none⟩):TksAt w (.slice a r.length (c - 1)) r:=by
 obtain ⟨hok,a',cap,he,hc,hat⟩:=h
 simp only [Value.slice.injEq,List.length_cons] at he hc
 obtain ⟨rfl,_,rfl⟩:=he
 refine ⟨hok.tail,a,_,rfl,by omega,fun i hi=>?_⟩
 have hne:r ≠ []:=by rintro rfl;simp at hi
 obtain ⟨b',o',e,hi',hr⟩:=hat (i+1) (by simp;omega)
 simp only [Option.some.injEq,Addr.mk.injEq,and_true] at e
 obtain ⟨rfl,rfl⟩:=e
 refine ⟨b,o+3,ha hne,hi,?_⟩
 rw [show o+3+i * 3=o+(i+1) * 3 by omega]
 simpa using hr
def rdCells (x:Nd × Int):List Value:=[.int .i64 x.1.kind,.int .i64 x.1.value,.string x.1.name,.int .i64 x.2]
theorem rdCells_len (x:Nd × Int):(rdCells x).length=4:=rfl
structure Fr (B br:Nat) (w w':World):Prop where
 os:w'.os=w.os
 tape:w'.tape=w.tape
 output:w'.output=w.output
 size:w.heap.size≤w'.heap.size
 block:∀ k,k<B → k ≠ br → w'.heap[k]?=w.heap[k]?
theorem Fr.refl (B br:Nat) (w:World):Fr B br w w:=⟨rfl,rfl,rfl,Nat.le_refl _,fun _ _ _=>rfl⟩
theorem Fr.trans {B br:Nat} {w w1 w2:World} (h:Fr B br w w1) (h':Fr B br w1 w2):Fr B br w w2 :=
 ⟨h'.os.trans h.os,h'.tape.trans h.tape,h'.output.trans h.output,Nat.le_trans h.size h'.size,fun k hk hn=>(h'.block k hk hn).trans (h.block k hk hn)⟩
theorem Fr.below {B br:Nat} {w w':World} (hB:B≤w.heap.size) (h:Below w.heap.size w w'):Fr B br w w' :=
 ⟨h.os,h.tape,h.output,h.size,fun k hk _=>h.block k (by omega)⟩
theorem Fr.exc {B br:Nat} {T:Nat → Prop} {w w':World} (hB:B≤w.heap.size) (h:Exc T w w') (hT:∀ k,T k → k=br∨B≤k):Fr B br w w' :=
 ⟨h.os,h.tape,h.output,h.size,fun k hk hn=>h.block k (by omega) (fun ht=>by rcases hT k ht with h1|h1;exact hn h1;omega)⟩
theorem Fr.cell {B br:Nat} {w w':World} (h:Fr B br w w') {b o:Nat} (hb:b<B) (hn:b ≠ br):w'.cell? ⟨b,o,none⟩=w.cell? ⟨b,o,none⟩:=World.cell?_of_block (w:=w) (h.block b hb hn)
def TkLow (B br:Nat) (v:Value):Prop:=∀ b o n c,v=.slice (some ⟨b,o,none⟩) n c → b<B∧b ≠ br
theorem TksAt.fr {B br:Nat} {w w':World} (h:Fr B br w w') {v:Value} {ts:List Tk} (hl:TkLow B br v) (ht:TksAt w v ts):TksAt w' v ts:=by
 obtain ⟨hok,a,cap,rfl,hc,hat⟩:=ht
 refine ⟨hok,a,cap,rfl,hc,fun i hi=>?_⟩
 obtain ⟨b,o,rfl,hi',h0,h1,h2⟩:=hat i hi
 obtain ⟨q1,q2⟩:=hl b o _ _ rfl
 exact ⟨b,o,rfl,hi',(h.cell q1 q2).trans h0,(h.cell q1 q2).trans h1,(h.cell q1 q2).trans h2⟩
structure ParV (B br:Nat) (en:Int) (w:World) (vt vo:Value) (ts:List Tk) (out:Rd):Prop where
 lt:br<B
 sz:B≤w.heap.size
 c0:w.cell? ⟨br,0,none⟩=some vt
 c1:w.cell? ⟨br,1,none⟩=some (.int .i64 en)
 c2:w.cell? ⟨br,2,none⟩=some vo
 fz:∀ i,w.frozen? ⟨br,i,none⟩=false
 tk:TksAt w vt ts
 low:TkLow B br vt
 own:w.ownsRow B 250 4 vo out.length (out.flatMap rdCells)
 nil:out=[] → vo=.slice none 0 0
def ParAt (B br:Nat) (en:Int) (w:World) (ts:List Tk) (out:Rd):Prop:=∃ vt vo,ParV B br en w vt vo ts out
def isSymS (ts:List Tk) (s:ByteArray):Bool:=match ts with
 | t :: _=>decide (t.kind=3) && decide (t.text=s)
 | []=>false
theorem is_any (B br:Nat) (en:Int) (ts:List Tk) (out:Rd) (s:ByteArray) (w:World) (h:ParAt B br en w ts out) :
  Calls Tryz.prog 178 #[.pointer (some ⟨br,0,none⟩),.string s] w fun e w'=>e=.returned (.bool (isSymS ts s))∧w=w':=by
 obtain ⟨vt,vo,h⟩:=h
 have c0:=h.c0
 cases ts with
 | nil =>
  obtain ⟨a,c,rfl,hc⟩:=h.tk.shape
  clear h
  go_enter Tryz.func178,Tryz.ntmps178
  go_wp2
  go_ret
  exact ⟨rfl,rfl⟩
 | cons t r =>
  obtain ⟨b,o,c,rfl,hc,k0,k1,k2⟩:=h.tk.head
  clear h
  by_cases h3:t.kind=3
  ·by_cases hs:t.text=s
   ·have g1:(t.kind == 3)=true:=by simp [h3]
    have g2:(t.text.toList == s.toList)=true:=by rw [str_beq];simp [hs]
    have HH:=Lib.hid (show isSymS (t :: r) s=true by simp [isSymS,h3,hs])
    clear h3 hs
    go_enter Tryz.func178,Tryz.ntmps178
    go_wp2
    go_ret
    exact ⟨ret_bool HH.out.symm,rfl⟩
   ·have g1:(t.kind == 3)=true:=by simp [h3]
    have g2:(t.text.toList == s.toList)=false:=by rw [str_beq];simp [hs]
    have HH:=Lib.hid (show isSymS (t :: r) s=false by simp [isSymS,hs])
    clear h3 hs
    go_enter Tryz.func178,Tryz.ntmps178
    go_wp2
    go_ret
    exact ⟨ret_bool HH.out.symm,rfl⟩
  ·have g1:(t.kind == 3)=false:=by simp [h3]
   have HH:=Lib.hid (show isSymS (t :: r) s=false by simp [isSymS,h3])
   clear h3
   go_enter Tryz.func178,Tryz.ntmps178
   go_wp2
   go_ret
   exact ⟨ret_bool HH.out.symm,rfl⟩
theorem wrong_any (B br:Nat) (en:Int) (ts:List Tk) (out:Rd) (w:World) (h:ParAt B br en w ts out) :
  Calls Tryz.prog 176 #[.pointer (some ⟨br,0,none⟩)] w fun e w'=>e=.returned (errV (posAt ts en,4))∧w=w':=by
 obtain ⟨vt,vo,h⟩:=h
 have c0:=h.c0
 have c1:=h.c1
 cases ts with
 | nil =>
  obtain ⟨a,c,rfl,hc⟩:=h.tk.shape
  clear h
  go_enter Tryz.func176,Tryz.ntmps176
  go_wp2
  go_ret
  exact ⟨rfl,rfl⟩
 | cons t r =>
  obtain ⟨b,o,c,rfl,hc,k0,k1,k2⟩:=h.tk.head
  clear h
  go_enter Tryz.func176,Tryz.ntmps176
  go_wp2
  go_ret
  exact ⟨rfl,rfl⟩
theorem par_below {B br:Nat} {en:Int} {w w':World} {vt vo:Value} {ts:List Tk} {out:Rd} (h:ParV B br en w vt vo ts out) (hb:Below w.heap.size w w'):ParV B br en w' vt vo ts out :=
 ⟨h.lt,Nat.le_trans h.sz hb.size,cell_keep hb h.c0,cell_keep hb h.c1,cell_keep hb h.c2,
  fun i=>(World.frozen?_of_block (w:=w) (hb.block br (by have:=h.lt;have:=h.sz;omega))).trans (h.fz i),h.tk.keep hb,h.low,owns_keep hb h.own,h.nil⟩
theorem par_set {B br:Nat} {en:Int} {w:World} {vt vo vt':Value} {ts ts':List Tk} {out:Rd} (h:ParV B br en w vt vo ts out) (ht:TksAt w vt' ts') (hl:TkLow B br vt'):ParV B br en (w.setCell ⟨br,0,none⟩ vt') vt' vo ts' out:=by
 have hE:Exc (fun k=>k=br) w (w.setCell ⟨br,0,none⟩ vt'):=exc_set (T:=fun k=>k=br) (Exc.refl _ w) (.inr rfl) _
 have hF:Fr B br w (w.setCell ⟨br,0,none⟩ vt'):=Fr.exc h.sz hE (fun k hk=>.inl hk)
 have c0:=h.c0
 have c1:=h.c1
 have c2:=h.c2
 refine ⟨h.lt,by simpa using h.sz,?_,?_,?_,fun i=>?_,ht.fr hF hl,hl,owns_exc hE h.own fun k hk e=>?_,h.nil⟩
 ·go_simp
 ·go_simp
 ·go_simp
 ·simpa using h.fz i
 ·have:=(World.ownsRow.lt h.own _ hk).1;have:=h.lt;omega
def tkV (t:Tk):Value:=.agg #[.int .i64 t.kind,.string t.text,.int .i64 t.pos]
theorem take_any (B br:Nat) (en:Int) (t:Tk) (r:List Tk) (out:Rd) (w:World) (h:ParAt B br en w (t :: r) out) :
  Calls Tryz.prog 177 #[.pointer (some ⟨br,0,none⟩)] w fun e w'=>e=.returned (tkV t)∧ParAt B br en w' r out∧Exc (fun k=>k=br) w w':=by
 obtain ⟨vt,vo,h⟩:=h
 obtain ⟨hlt,hsz,c0,c1,c2,hfz,htk,hlow,hown,hnil⟩:=h
 obtain ⟨b,o,c,rfl,hc,k0,k1,k2⟩:=htk.head
 obtain ⟨qb,qn⟩:=hlow b o _ _ rfl
 have f0:=hfz 0
 have hbr:br<w.heap.size:=by omega
 have hbs:b<w.heap.size:=by omega
 go_enter Tryz.func177,Tryz.ntmps177
 go_wp2
 ·subst c
  have hr:r=[]:=List.eq_nil_of_length_eq_zero (by omega)
  have hp:=par_set (vt':=.slice (some ⟨b,o,none⟩) r.length 0) ⟨hlt,hsz,c0,c1,c2,hfz,htk,hlow,hown,hnil⟩ (htk.tail _ (fun h=>absurd hr h)) (fun b' o' n c' e=>by cases e;exact ⟨qb,qn⟩)
  have hE:Exc (fun k=>k=br) w (w.setCell ⟨br,0,none⟩ (.slice (some ⟨b,o,none⟩) r.length 0)):=exc_set (T:=fun k=>k=br) (Exc.refl _ w) (.inr rfl) _
  have hb:=((Below.refl _ (w.setCell ⟨br,0,none⟩ (.slice (some ⟨b,o,none⟩) r.length 0))).alloc (Nat.le_refl _) (Obj.cells #[.int .i64 t.kind,.string t.text,.int .i64 t.pos] 87)).alloc (by simp) (Obj.cells #[.int .i64 t.kind,.string t.text,.int .i64 t.pos] 87)
  exact bodyPost_ret (v:=tkV t) (by simp [results,Tryz.results177,go_sem,tkV]) rfl ⟨rfl,⟨_,_,par_below hp hb⟩,hE.below hb⟩
 ·have hp:=par_set (vt':=.slice (some ⟨b,o+3,none⟩) r.length (c - 1)) ⟨hlt,hsz,c0,c1,c2,hfz,htk,hlow,hown,hnil⟩ (htk.tail _ (fun _=>rfl)) (fun b' o' n c' e=>by cases e;exact ⟨qb,qn⟩)
  have hE:Exc (fun k=>k=br) w (w.setCell ⟨br,0,none⟩ (.slice (some ⟨b,o+3,none⟩) r.length (c - 1))):=exc_set (T:=fun k=>k=br) (Exc.refl _ w) (.inr rfl) _
  have hb:=((Below.refl _ (w.setCell ⟨br,0,none⟩ (.slice (some ⟨b,o+3,none⟩) r.length (c - 1)))).alloc (Nat.le_refl _) (Obj.cells #[.int .i64 t.kind,.string t.text,.int .i64 t.pos] 87)).alloc (by simp) (Obj.cells #[.int .i64 t.kind,.string t.text,.int .i64 t.pos] 87)
  exact bodyPost_ret (v:=tkV t) (by simp [results,Tryz.results177,go_sem,tkV]) rfl ⟨rfl,⟨_,_,par_below hp hb⟩,hE.below hb⟩
end Go.Proofs.YtbljmfcifljkaaaGreatDoor
/-
  The program's parser: need, word. Own work.
-/
namespace Go.Proofs.YtbljmfcifljkaaaGreatDoor
open Go.RowKit
theorem need_yes (B br:Nat) (en:Int) (t:Tk) (r:List Tk) (out:Rd) (s:ByteArray) (w:World) (h:ParAt B br en w (t :: r) out) (hs:isSymS (t :: r) s=true) :
  Calls Tryz.prog 111 #[.pointer (some ⟨br,0,none⟩),.string s] w fun e w'=>e=.returned .nilIface∧ParAt B br en w' r out∧Exc (fun k=>k=br) w w':=by
 go_enter Tryz.func111,Tryz.ntmps111
 go_wp2_with (first|(go_at_call 178;refine (is_any B br en (t :: r) out s w h).mono ?_;rintro e w1 ⟨rfl,rfl⟩;rw [hs])|(go_at_call 177;refine (take_any B br en t r out w h).mono ?_;rintro e w1 ⟨rfl,hp,hx⟩))
 exact bodyPost_ret (v:=.nilIface) (by simp [results,Tryz.results111,go_sem]) rfl ⟨rfl,hp,hx⟩
theorem need_no (B br:Nat) (en:Int) (ts:List Tk) (out:Rd) (s:ByteArray) (w:World) (h:ParAt B br en w ts out) (hs:isSymS ts s=false) :
  Calls Tryz.prog 111 #[.pointer (some ⟨br,0,none⟩),.string s] w fun e w'=>e=.returned (errV (posAt ts en,4))∧w=w':=by
 go_enter Tryz.func111,Tryz.ntmps111
 go_wp2_with (first|(go_at_call 178;refine (is_any B br en ts out s w h).mono ?_;rintro e w1 ⟨rfl,rfl⟩;rw [hs])|(go_at_call 176;refine (wrong_any B br en ts out w h).mono ?_;rintro e w1 ⟨rfl,rfl⟩))
 exact bodyPost_ret (v:=errV (posAt ts en,4)) (by simp [results,Tryz.results111,go_sem]) rfl ⟨rfl,rfl⟩
theorem word_yes (B br:Nat) (en:Int) (t:Tk) (r:List Tk) (out:Rd) (w:World) (h:ParAt B br en w (t :: r) out) (ht:t.kind=1) :
  Calls Tryz.prog 110 #[.pointer (some ⟨br,0,none⟩)] w fun e w'=>e=.returned (.tuple #[.string t.text,.nilIface])∧ParAt B br en w' r out∧Exc (fun k=>k=br) w w':=by
 obtain ⟨vt,vo,h'⟩:=id h
 have c0:=h'.c0
 obtain ⟨b,o,c,rfl,hc,k0,k1,k2⟩:=h'.tk.head
 rw [ht] at k0
 clear h' ht
 have hfd:∀ w:World,(Instr.field 87 (.agg #[.int .i64 t.kind,.string t.text,.int .i64 t.pos]) 1).run Tryz.prog w=.ok (.string t.text) w:=fun _=>by kernel_rfl
 go_enter Tryz.func110,Tryz.ntmps110
 go_wp2_with (go_at_call 177;refine (take_any B br en t r out w h).mono ?_;rintro e w1 ⟨rfl,hp,hx⟩;simp only [tkV])
 exact bodyPost_ret (v:=.tuple #[.string t.text,.nilIface]) (by simp [results,Tryz.results110,go_sem]) rfl ⟨rfl,hp,hx⟩
theorem word_no (B br:Nat) (en:Int) (ts:List Tk) (out:Rd) (w:World) (h:ParAt B br en w ts out) (hs:∀ t r,ts=t :: r → t.kind ≠ 1) :
  Calls Tryz.prog 110 #[.pointer (some ⟨br,0,none⟩)] w fun e w'=>e=.returned (.tuple #[.string ⟨#[]⟩,errV (posAt ts en,4)])∧w=w':=by
 obtain ⟨vt,vo,h'⟩:=id h
 have c0:=h'.c0
 cases ts with
 | nil =>
  obtain ⟨a,c,rfl,hc⟩:=h'.tk.shape
  clear h'
  go_enter Tryz.func110,Tryz.ntmps110
  go_wp2_with (go_at_call 176;refine (wrong_any B br en [] out w h).mono ?_;rintro e w1 ⟨rfl,rfl⟩)
  exact bodyPost_ret (v:=.tuple #[.string ⟨#[]⟩,errV (posAt [] en,4)]) (by simp [results,Tryz.results110,go_sem]) rfl ⟨rfl,rfl⟩
 | cons t r =>
  obtain ⟨b,o,c,rfl,hc,k0,k1,k2⟩:=h'.tk.head
  have g1:(t.kind != 1)=true:=by simpa using hs t r rfl
  clear h' hs
  go_enter Tryz.func110,Tryz.ntmps110
  go_wp2_with (go_at_call 176;refine (wrong_any B br en (t :: r) out w h).mono ?_;rintro e w1 ⟨rfl,rfl⟩)
  exact bodyPost_ret (v:=.tuple #[.string ⟨#[]⟩,errV (posAt (t :: r) en,4)]) (by simp [results,Tryz.results110,go_sem]) rfl ⟨rfl,rfl⟩
end Go.Proofs.YtbljmfcifljkaaaGreatDoor
/-
  The program's parser: what a part, a row, a term leaves behind. Own work.
-/
namespace Go.Proofs.YtbljmfcifljkaaaGreatDoor
open Go.RowKit
theorem infoRd:(Tryz.prog.info? 250).map (fun i=>(i.zero,i.size,i.bytes))=some (some (.agg #[.int .i64 0,.int .i64 0,.string ⟨#[]⟩,.int .i64 0]),4,40):=by kernel_rfl
theorem par_push {B br:Nat} {en:Int} {w w2:World} {vt vo v':Value} {ts:List Tk} {out:Rd} (x:Nd × Int) (h:ParV B br en w vt vo ts out) (hg:w.grownBy w2 vo.ownBlock)
  (hown:w2.ownsRow B 250 4 v' (out.length+1) (out.flatMap rdCells ++ rdCells x)) :
  ParV B br en (w2.setCell ⟨br,2,none⟩ v') vt v' ts (out ++ [x])∧Fr B br w (w2.setCell ⟨br,2,none⟩ v'):=by
 have hE1:Exc (fun k=>vo.ownBlock=some k) w w2:=(Exc.refl _ w).grown hg (fun k hk=>.inr hk)
 have hlow:∀ k,vo.ownBlock=some k → B≤k:=fun k hk=>(World.ownsRow.lt h.own _ hk).1
 have hF1:Fr B br w w2:=Fr.exc h.sz hE1 (fun k hk=>.inr (hlow k hk))
 have hsz2:B≤w2.heap.size:=Nat.le_trans h.sz hE1.size
 have hE2:Exc (fun k=>k=br) w2 (w2.setCell ⟨br,2,none⟩ v'):=exc_set (T:=fun k=>k=br) (Exc.refl _ w2) (.inr rfl) _
 have hF:Fr B br w (w2.setCell ⟨br,2,none⟩ v'):=hF1.trans (Fr.exc hsz2 hE2 (fun k hk=>.inl hk))
 have hlt:=h.lt
 have hbw:br<w.heap.size:=Nat.lt_of_lt_of_le h.lt h.sz
 have hn:¬ vo.ownBlock=some br:=fun e=>by have:=hlow br e;omega
 have c0:w2.cell? ⟨br,0,none⟩=some vt:=(hE1.cell.1 br 0 hbw hn).trans h.c0
 have c1:w2.cell? ⟨br,1,none⟩=some (.int .i64 en):=(hE1.cell.1 br 1 hbw hn).trans h.c1
 have c2:w2.cell? ⟨br,2,none⟩=some vo:=(hE1.cell.1 br 2 hbw hn).trans h.c2
 refine ⟨⟨h.lt,by simpa using hsz2,?_,?_,?_,fun i=>?_,h.tk.fr hF h.low,h.low,?_,fun e=>by simp at e⟩,hF⟩
 ·go_simp
 ·go_simp
 ·go_simp
 ·have:=(hE1.cell.2 br i hbw hn).trans (h.fz i);simpa using this
 ·rw [List.length_append,List.flatMap_append]
  exact owns_exc hE2 (by simpa using hown) fun k hk e=>by have:=(World.ownsRow.lt hown _ hk).1;omega
def resV (en:Int) (r:PRes):Value:=if r.bad then errV (posAt r.rest en,4) else .nilIface
structure PostP (B br:Nat) (en:Int) (w:World) (ts:List Tk) (out:Rd) (r:PRes) (e:Ending) (w':World):Prop where
 par:ParAt B br en w' r.rest r.out
 fr:Fr B br w w'
 len:r.rest.length≤ts.length
 sum:r.out.length+r.rest.length≤out.length+ts.length
 ret:e=.returned (resV en r)
end Go.Proofs.YtbljmfcifljkaaaGreatDoor
/-
  The program's parser: chain, at a row. Own work.
-/
namespace Go.Proofs.YtbljmfcifljkaaaGreatDoor
open Go.RowKit
def tkLen (w:World) (br:Nat):Nat:=match w.cell? ⟨br,0,none⟩ with
 | some (.slice _ n _)=>n
 | _=>0
theorem ParAt.tkLen {B br:Nat} {en:Int} {w:World} {ts:List Tk} {out:Rd} (h:ParAt B br en w ts out):tkLen w br=ts.length:=by
 obtain ⟨vt,vo,h⟩:=h
 obtain ⟨a,c,rfl,hc⟩:=h.tk.shape
 simp [Proofs.YtbljmfcifljkaaaGreatDoor.tkLen,h.c0]
theorem chainRow (B br:Nat) (en:Int) (f:Nat) (hP:∀ g,g≤f → ∀ ts out w,ts.length≤g → out.length+ts.length≤40000 → ParAt B br en w ts out → Calls Tryz.prog 239 #[.pointer (some ⟨br,0,none⟩)] w (PostP B br en w ts out (pPart g ts out)))
  (ts:List Tk) (out:Rd) (w:World) (hts:ts.length≤f) (hsum:out.length+ts.length≤40000) (h:ParAt B br en w ts out) :
  Calls Tryz.prog 179 #[.pointer (some ⟨br,0,none⟩),.string ⟨#[42]⟩,.int .i64 16,.func (.func 239) #[.pointer (some ⟨br,0,none⟩)] #[]] w (PostP B br en w ts out (pRow f ts out)):=by
 have h0:=hP f (Nat.le_refl _) ts out w hts hsum h
 obtain ⟨⟨bad,rest,o⟩,hq⟩:∃ q,pPart f ts out=q:=⟨_,rfl⟩
 rw [hq] at h0
 obtain ⟨i0,hi,hz0,hz1,hz2⟩:=info_parts infoRd
 cases bad
 ·have HR:Hid (pRow f ts out=pRows f rest o):=(show _=_ by rw [pRow,hq])
  clear hq
  go_enter Tryz.func179,Tryz.ntmps179
  go_wp2_with (go_at_call 239;refine h0.mono ?_;rintro e w1 ⟨hp1,hf1,hl1,hs1,rfl⟩;rw [show resV en ⟨false,rest,o⟩=.nilIface from rfl])
  go_loopw [10,11] (fun _ _ wr=>∃ (f':Nat) (ts':List Tk) (out':Rd),f'≤f∧ts'.length≤f'∧out'.length+ts'.length≤40000∧ParAt B br en wr ts' out'∧Fr B br w wr∧ts'.length≤ts.length∧out'.length+ts'.length≤out.length+ts.length∧Hid (pRow f ts out=pRows f' ts' out')) (fun _ _ wr=>tkLen wr br)
  case atStart=>exact ⟨f,rest,o,Nat.le_refl _,by omega,by omega,hp1,hf1,hl1,hs1,HR⟩
  case round =>
   obtain ⟨f',ts',out',hff,hlf,hof,hpw,hfw,hlt,hst,HG⟩:=hrel
   have hlen:=hpw.tkLen
   cases hy:isSymS ts' ⟨#[42]⟩
   ·have HE:Hid (pRow f ts out=⟨false,ts',out'⟩):=(show _=_ by
     rw [HG.out]
     have hy':isSym ts' 42=false:=by cases ts' <;> simpa [isSym,isSymS] using hy
     cases f' <;> simp [pRows,hy'])
    go_wp2_with (go_at_call 178;refine (is_any B br en ts' out' _ _ hpw).mono ?_;rintro e w2 ⟨rfl,rfl⟩;rw [hy])
    exact bodyPost_ret (v:=.nilIface) (by simp [results,Tryz.results179,go_sem]) rfl (by rw [HE.out];exact ⟨hpw,hfw,hlt,hst,rfl⟩)
   ·cases ts' with
    | nil=>simp [isSymS] at hy
    | cons t r =>
     obtain ⟨g,rfl⟩:∃ g,f'=g+1:=⟨f' - 1,by simp at hlf;omega⟩
     have hlf':r.length≤g:=by simpa using hlf
     have hy':isSym (t :: r) 42=true:=by simpa [isSym,isSymS] using hy
     have hfd:∀ w:World,(Instr.field 87 (.agg #[.int .i64 t.kind,.string t.text,.int .i64 t.pos]) 2).run Tryz.prog w=.ok (.int .i64 t.pos) w:=fun _=>by kernel_rfl
     obtain ⟨⟨bad,rest2,o2⟩,hq⟩:∃ q,pPart g r out'=q:=⟨_,rfl⟩
     have hg:=fun w2 h2=>hP g (by omega) r out' w2 hlf' (by simp at hof;omega) h2
     rw [hq] at hg
     cases bad
     ·have HS:Hid (pRow f ts out=pRows g rest2 (o2 ++ [(⟨16,0,⟨#[]⟩⟩,t.pos)])):=(show _=_ by rw [HG.out,pRows,if_pos hy'];simp [hq])
      clear hq HG
      go_wp2_with (first|(go_at_call 178;refine (is_any B br en (t :: r) out' _ _ hpw).mono ?_;rintro e w2 ⟨rfl,rfl⟩;rw [hy])|(go_at_call 177;refine (take_any B br en t r out' _ hpw).mono ?_;rintro e w2 ⟨rfl,hp2,hx2⟩;simp only [tkV])|(go_at_call 239;refine (hg _ hp2).mono ?_;rintro e w3 ⟨⟨vt3,vo3,hv3⟩,hf3,hl3,hs3,rfl⟩;rw [show resV en ⟨false,rest2,o2⟩=.nilIface from rfl];obtain ⟨ao,cp,rfl⟩:=owns_shape' hv3.own;have k2:=hv3.c2;have fz2:=hv3.fz 2;have hbr3:br<w3.heap.size:=Nat.lt_of_lt_of_le hv3.lt hv3.sz)|(at_builtin;refine wpList_append_own _ rfl _ _ 159 rfl B 250 i0 _ 4 40 Tryz.underlying159 hi hz0 hz1 hz2 rfl (by decide) _ _ _ rfl (hv3.own.alloc _) ⟨w3.heap.size,0,none⟩ 1 1 [.int .i64 16,.int .i64 0,.string ⟨#[]⟩,.int .i64 t.pos] rfl rfl ?c1 ?c2 ?c3 ?c4 ?c5 ?_))
      case c1 =>
       intro j u hj
       match j,hj with
       | 0,hj=>simp at hj;subst hj;simp [Addr.add]
       | 1,hj=>simp at hj;subst hj;simp [Addr.add]
       | 2,hj=>simp at hj;subst hj;simp [Addr.add]
       | 3,hj=>simp at hj;subst hj;simp [Addr.add]
      case c2=>intro u hu;simp at hu;rcases hu with rfl|rfl|rfl|rfl <;> rfl
      case c3=>unfold maxLen;simp at hof;omega
      case c4=>simp at hof;omega
      case c5=>have:=hv3.sz;simp;omega
      intro v' w5 hown5 hgrow _
      obtain ⟨ao5,cp5,rfl⟩:=owns_shape' hown5
      obtain ⟨vtw,vow,hvw⟩:=id hpw
      have hpb:=par_below hv3 (alloc_below w3 (.cells #[.int .i64 16,.int .i64 0,.string ⟨#[]⟩,.int .i64 t.pos] 250))
      have hPP:=par_push (⟨16,0,⟨#[]⟩⟩,t.pos) hpb hgrow hown5
      have hF6:Fr B br w (w5.setCell ⟨br,2,none⟩ (.slice ao5 (o2.length+1) cp5)):=((hfw.trans (Fr.exc hvw.sz hx2 (fun k hk=>.inl hk))).trans hf3).trans ((Fr.below hv3.sz (alloc_below w3 _)).trans hPP.2)
      have hl6:=(show ParAt B br en (w5.setCell ⟨br,2,none⟩ (.slice ao5 (o2.length+1) cp5)) rest2 (o2 ++ [(⟨16,0,⟨#[]⟩⟩,t.pos)]) from ⟨_,_,hPP.1⟩)
      have hE5:Exc (fun k=>(Value.slice ao o2.length cp).ownBlock=some k) (w3.alloc (.cells #[.int .i64 16,.int .i64 0,.string ⟨#[]⟩,.int .i64 t.pos] 250)) w5:=(Exc.refl _ _).grown hgrow (fun k hk=>.inr hk)
      have hn5:¬ (Value.slice ao o2.length cp).ownBlock=some br:=fun e=>by have:=(World.ownsRow.lt hv3.own _ e).1;have:=hv3.lt;omega
      have k5:=(hE5.cell.1 br 2 (by simp;omega) hn5).trans hpb.c2
      have f5:=(hE5.cell.2 br 2 (by simp;omega) hn5).trans (hpb.fz 2)
      have s5:=cell_lt k5
      clear hE5 hn5 hPP hpb hgrow hown5 hvw k2 fz2 hbr3
      go_wp2
      go_roundw
      case rel=>exact ⟨g,rest2,_,by omega,by omega,by simp at hof ⊢;omega,hl6,hF6,by simp at hlt;omega,by simp at hst ⊢;omega,HS⟩
      case measure=>rw [hl6.tkLen,hlen];simp;omega
     ·have HE:Hid (pRow f ts out=⟨true,rest2,o2⟩):=(show _=_ by rw [HG.out,pRows,if_pos hy'];simp [hq])
      clear hq HG
      go_wp2_with (first|(go_at_call 178;refine (is_any B br en (t :: r) out' _ _ hpw).mono ?_;rintro e w2 ⟨rfl,rfl⟩;rw [hy])|(go_at_call 177;refine (take_any B br en t r out' _ hpw).mono ?_;rintro e w2 ⟨rfl,hp2,hx2⟩;simp only [tkV])|(go_at_call 239;refine (hg _ hp2).mono ?_;rintro e w3 ⟨hp3,hf3,hl3,hs3,rfl⟩;rw [show resV en ⟨true,rest2,o2⟩=errV (posAt rest2 en,4) from rfl];simp only [errV]))
      obtain ⟨vtw,vow,hvw⟩:=id hpw
      exact bodyPost_ret (v:=errV (posAt rest2 en,4)) (by simp [results,Tryz.results179,go_sem,errV]) rfl (by rw [HE.out];exact ⟨hp3,(hfw.trans (Fr.exc hvw.sz hx2 (fun k hk=>.inl hk))).trans hf3,by simp at hlt;simp;omega,by simp at hst;simp;omega,rfl⟩)
 ·have HR:Hid (pRow f ts out=⟨true,rest,o⟩):=(show _=_ by rw [pRow,hq])
  clear hq
  go_enter Tryz.func179,Tryz.ntmps179
  go_wp2_with (go_at_call 239;refine h0.mono ?_;rintro e w1 ⟨hp1,hf1,hl1,hs1,rfl⟩;rw [show resV en ⟨true,rest,o⟩=errV (posAt rest en,4) from rfl];simp only [errV])
  exact bodyPost_ret (v:=errV (posAt rest en,4)) (by simp [results,Tryz.results179,go_sem,errV]) rfl (by rw [HR.out];exact ⟨hp1,hf1,hl1,hs1,rfl⟩)
end Go.Proofs.YtbljmfcifljkaaaGreatDoor
/-
  The program's parser: chain, at a term. Own work.
-/
namespace Go.Proofs.YtbljmfcifljkaaaGreatDoor
open Go.RowKit
theorem chainTerm (B br:Nat) (en:Int) (f:Nat) (hP:∀ g,g≤f → ∀ ts out w,ts.length≤g → out.length+ts.length≤40000 → ParAt B br en w ts out → Calls Tryz.prog 180 #[.pointer (some ⟨br,0,none⟩)] w (PostP B br en w ts out (pRow g ts out)))
  (ts:List Tk) (out:Rd) (w:World) (hts:ts.length≤f) (hsum:out.length+ts.length≤40000) (h:ParAt B br en w ts out) :
  Calls Tryz.prog 179 #[.pointer (some ⟨br,0,none⟩),.string ⟨#[59]⟩,.int .i64 15,.func (.func 180) #[.pointer (some ⟨br,0,none⟩)] #[]] w (PostP B br en w ts out (pTerm f ts out)):=by
 have h0:=hP f (Nat.le_refl _) ts out w hts hsum h
 obtain ⟨⟨bad,rest,o⟩,hq⟩:∃ q,pRow f ts out=q:=⟨_,rfl⟩
 rw [hq] at h0
 obtain ⟨i0,hi,hz0,hz1,hz2⟩:=info_parts infoRd
 cases bad
 ·have HR:Hid (pTerm f ts out=pTerms f rest o):=(show _=_ by rw [pTerm,hq])
  clear hq
  go_enter Tryz.func179,Tryz.ntmps179
  go_wp2_with (go_at_call 180;refine h0.mono ?_;rintro e w1 ⟨hp1,hf1,hl1,hs1,rfl⟩;rw [show resV en ⟨false,rest,o⟩=.nilIface from rfl])
  go_loopw [10,11] (fun _ _ wr=>∃ (f':Nat) (ts':List Tk) (out':Rd),f'≤f∧ts'.length≤f'∧out'.length+ts'.length≤40000∧ParAt B br en wr ts' out'∧Fr B br w wr∧ts'.length≤ts.length∧out'.length+ts'.length≤out.length+ts.length∧Hid (pTerm f ts out=pTerms f' ts' out')) (fun _ _ wr=>tkLen wr br)
  case atStart=>exact ⟨f,rest,o,Nat.le_refl _,by omega,by omega,hp1,hf1,hl1,hs1,HR⟩
  case round =>
   obtain ⟨f',ts',out',hff,hlf,hof,hpw,hfw,hlt,hst,HG⟩:=hrel
   have hlen:=hpw.tkLen
   cases hy:isSymS ts' ⟨#[59]⟩
   ·have HE:Hid (pTerm f ts out=⟨false,ts',out'⟩):=(show _=_ by
     rw [HG.out]
     have hy':isSym ts' 59=false:=by cases ts' <;> simpa [isSym,isSymS] using hy
     cases f' <;> simp [pTerms,hy'])
    go_wp2_with (go_at_call 178;refine (is_any B br en ts' out' _ _ hpw).mono ?_;rintro e w2 ⟨rfl,rfl⟩;rw [hy])
    exact bodyPost_ret (v:=.nilIface) (by simp [results,Tryz.results179,go_sem]) rfl (by rw [HE.out];exact ⟨hpw,hfw,hlt,hst,rfl⟩)
   ·cases ts' with
    | nil=>simp [isSymS] at hy
    | cons t r =>
     obtain ⟨g,rfl⟩:∃ g,f'=g+1:=⟨f' - 1,by simp at hlf;omega⟩
     have hlf':r.length≤g:=by simpa using hlf
     have hy':isSym (t :: r) 59=true:=by simpa [isSym,isSymS] using hy
     have hfd:∀ w:World,(Instr.field 87 (.agg #[.int .i64 t.kind,.string t.text,.int .i64 t.pos]) 2).run Tryz.prog w=.ok (.int .i64 t.pos) w:=fun _=>by kernel_rfl
     obtain ⟨⟨bad,rest2,o2⟩,hq⟩:∃ q,pRow g r out'=q:=⟨_,rfl⟩
     have hg:=fun w2 h2=>hP g (by omega) r out' w2 hlf' (by simp at hof;omega) h2
     rw [hq] at hg
     cases bad
     ·have HS:Hid (pTerm f ts out=pTerms g rest2 (o2 ++ [(⟨15,0,⟨#[]⟩⟩,t.pos)])):=(show _=_ by rw [HG.out,pTerms,if_pos hy'];simp [hq])
      clear hq HG
      go_wp2_with (first|(go_at_call 178;refine (is_any B br en (t :: r) out' _ _ hpw).mono ?_;rintro e w2 ⟨rfl,rfl⟩;rw [hy])|(go_at_call 177;refine (take_any B br en t r out' _ hpw).mono ?_;rintro e w2 ⟨rfl,hp2,hx2⟩;simp only [tkV])|(go_at_call 180;refine (hg _ hp2).mono ?_;rintro e w3 ⟨⟨vt3,vo3,hv3⟩,hf3,hl3,hs3,rfl⟩;rw [show resV en ⟨false,rest2,o2⟩=.nilIface from rfl];obtain ⟨ao,cp,rfl⟩:=owns_shape' hv3.own;have k2:=hv3.c2;have fz2:=hv3.fz 2;have hbr3:br<w3.heap.size:=Nat.lt_of_lt_of_le hv3.lt hv3.sz)|(at_builtin;refine wpList_append_own _ rfl _ _ 159 rfl B 250 i0 _ 4 40 Tryz.underlying159 hi hz0 hz1 hz2 rfl (by decide) _ _ _ rfl (hv3.own.alloc _) ⟨w3.heap.size,0,none⟩ 1 1 [.int .i64 15,.int .i64 0,.string ⟨#[]⟩,.int .i64 t.pos] rfl rfl ?c1 ?c2 ?c3 ?c4 ?c5 ?_))
      case c1 =>
       intro j u hj
       match j,hj with
       | 0,hj=>simp at hj;subst hj;simp [Addr.add]
       | 1,hj=>simp at hj;subst hj;simp [Addr.add]
       | 2,hj=>simp at hj;subst hj;simp [Addr.add]
       | 3,hj=>simp at hj;subst hj;simp [Addr.add]
      case c2=>intro u hu;simp at hu;rcases hu with rfl|rfl|rfl|rfl <;> rfl
      case c3=>unfold maxLen;simp at hof;omega
      case c4=>simp at hof;omega
      case c5=>have:=hv3.sz;simp;omega
      intro v' w5 hown5 hgrow _
      obtain ⟨ao5,cp5,rfl⟩:=owns_shape' hown5
      obtain ⟨vtw,vow,hvw⟩:=id hpw
      have hpb:=par_below hv3 (alloc_below w3 (.cells #[.int .i64 15,.int .i64 0,.string ⟨#[]⟩,.int .i64 t.pos] 250))
      have hPP:=par_push (⟨15,0,⟨#[]⟩⟩,t.pos) hpb hgrow hown5
      have hF6:Fr B br w (w5.setCell ⟨br,2,none⟩ (.slice ao5 (o2.length+1) cp5)):=((hfw.trans (Fr.exc hvw.sz hx2 (fun k hk=>.inl hk))).trans hf3).trans ((Fr.below hv3.sz (alloc_below w3 _)).trans hPP.2)
      have hl6:=(show ParAt B br en (w5.setCell ⟨br,2,none⟩ (.slice ao5 (o2.length+1) cp5)) rest2 (o2 ++ [(⟨15,0,⟨#[]⟩⟩,t.pos)]) from ⟨_,_,hPP.1⟩)
      have hE5:Exc (fun k=>(Value.slice ao o2.length cp).ownBlock=some k) (w3.alloc (.cells #[.int .i64 15,.int .i64 0,.string ⟨#[]⟩,.int .i64 t.pos] 250)) w5:=(Exc.refl _ _).grown hgrow (fun k hk=>.inr hk)
      have hn5:¬ (Value.slice ao o2.length cp).ownBlock=some br:=fun e=>by have:=(World.ownsRow.lt hv3.own _ e).1;have:=hv3.lt;omega
      have k5:=(hE5.cell.1 br 2 (by simp;omega) hn5).trans hpb.c2
      have f5:=(hE5.cell.2 br 2 (by simp;omega) hn5).trans (hpb.fz 2)
      have s5:=cell_lt k5
      clear hE5 hn5 hPP hpb hgrow hown5 hvw k2 fz2 hbr3
      go_wp2
      go_roundw
      case rel=>exact ⟨g,rest2,_,by omega,by omega,by simp at hof ⊢;omega,hl6,hF6,by simp at hlt;omega,by simp at hst ⊢;omega,HS⟩
      case measure=>rw [hl6.tkLen,hlen];simp;omega
     ·have HE:Hid (pTerm f ts out=⟨true,rest2,o2⟩):=(show _=_ by rw [HG.out,pTerms,if_pos hy'];simp [hq])
      clear hq HG
      go_wp2_with (first|(go_at_call 178;refine (is_any B br en (t :: r) out' _ _ hpw).mono ?_;rintro e w2 ⟨rfl,rfl⟩;rw [hy])|(go_at_call 177;refine (take_any B br en t r out' _ hpw).mono ?_;rintro e w2 ⟨rfl,hp2,hx2⟩;simp only [tkV])|(go_at_call 180;refine (hg _ hp2).mono ?_;rintro e w3 ⟨hp3,hf3,hl3,hs3,rfl⟩;rw [show resV en ⟨true,rest2,o2⟩=errV (posAt rest2 en,4) from rfl];simp only [errV]))
      obtain ⟨vtw,vow,hvw⟩:=id hpw
      exact bodyPost_ret (v:=errV (posAt rest2 en,4)) (by simp [results,Tryz.results179,go_sem,errV]) rfl (by rw [HE.out];exact ⟨hp3,(hfw.trans (Fr.exc hvw.sz hx2 (fun k hk=>.inl hk))).trans hf3,by simp at hlt;simp;omega,by simp at hst;simp;omega,rfl⟩)
 ·have HR:Hid (pTerm f ts out=⟨true,rest,o⟩):=(show _=_ by rw [pTerm,hq])
  clear hq
  go_enter Tryz.func179,Tryz.ntmps179
  go_wp2_with (go_at_call 180;refine h0.mono ?_;rintro e w1 ⟨hp1,hf1,hl1,hs1,rfl⟩;rw [show resV en ⟨true,rest,o⟩=errV (posAt rest en,4) from rfl];simp only [errV])
  exact bodyPost_ret (v:=errV (posAt rest en,4)) (by simp [results,Tryz.results179,go_sem,errV]) rfl (by rw [HR.out];exact ⟨hp1,hf1,hl1,hs1,rfl⟩)
end Go.Proofs.YtbljmfcifljkaaaGreatDoor
/-
  The program's parser: row and term. Own work.
-/
namespace Go.Proofs.YtbljmfcifljkaaaGreatDoor
open Go.RowKit
theorem row_at (B br:Nat) (en:Int) (f:Nat) (hP:∀ g,g≤f → ∀ ts out w,ts.length≤g → out.length+ts.length≤40000 → ParAt B br en w ts out → Calls Tryz.prog 239 #[.pointer (some ⟨br,0,none⟩)] w (PostP B br en w ts out (pPart g ts out)))
  (ts:List Tk) (out:Rd) (w:World) (hts:ts.length≤f) (hsum:out.length+ts.length≤40000) (h:ParAt B br en w ts out) :
  Calls Tryz.prog 180 #[.pointer (some ⟨br,0,none⟩)] w (PostP B br en w ts out (pRow f ts out)):=by
 have hc:=chainRow B br en f hP ts out w hts hsum h
 go_enter Tryz.func180,Tryz.ntmps180
 go_wp2_with (go_at_call 179;refine hc.mono ?_;rintro e w1 ⟨hp1,hf1,hl1,hs1,rfl⟩)
 exact bodyPost_ret (v:=resV en (pRow f ts out)) (by simp [results,Tryz.results180,go_sem]) rfl ⟨hp1,hf1,hl1,hs1,rfl⟩
theorem term_at (B br:Nat) (en:Int) (f:Nat) (hP:∀ g,g≤f → ∀ ts out w,ts.length≤g → out.length+ts.length≤40000 → ParAt B br en w ts out → Calls Tryz.prog 180 #[.pointer (some ⟨br,0,none⟩)] w (PostP B br en w ts out (pRow g ts out)))
  (ts:List Tk) (out:Rd) (w:World) (hts:ts.length≤f) (hsum:out.length+ts.length≤40000) (h:ParAt B br en w ts out) :
  Calls Tryz.prog 112 #[.pointer (some ⟨br,0,none⟩)] w (PostP B br en w ts out (pTerm f ts out)):=by
 have hc:=chainTerm B br en f hP ts out w hts hsum h
 go_enter Tryz.func112,Tryz.ntmps112
 go_wp2_with (go_at_call 179;refine hc.mono ?_;rintro e w1 ⟨hp1,hf1,hl1,hs1,rfl⟩)
 exact bodyPost_ret (v:=resV en (pTerm f ts out)) (by simp [results,Tryz.results112,go_sem]) rfl ⟨hp1,hf1,hl1,hs1,rfl⟩
end Go.Proofs.YtbljmfcifljkaaaGreatDoor
/-
  The program's parser: part, at a bracket. Own work.
-/
namespace Go.Proofs.YtbljmfcifljkaaaGreatDoor
open Go.RowKit
theorem part_paren (B br:Nat) (en:Int) (f:Nat) (hT:∀ ts out w,ts.length≤f → out.length+ts.length≤40000 → ParAt B br en w ts out → Calls Tryz.prog 112 #[.pointer (some ⟨br,0,none⟩)] w (PostP B br en w ts out (pTerm f ts out)))
  (t:Tk) (r:List Tk) (out:Rd) (w:World) (hts:r.length≤f) (hsum:out.length+(r.length+1)≤40000) (h:ParAt B br en w (t :: r) out) (hy:isSymS (t :: r) ⟨#[40]⟩=true) :
  Calls Tryz.prog 239 #[.pointer (some ⟨br,0,none⟩)] w (PostP B br en w (t :: r) out (pPart (f+1) (t :: r) out)):=by
 have hy':isSym (t :: r) 40=true:=by simpa [isSym,isSymS] using hy
 obtain ⟨⟨bad,r2,o2⟩,hq⟩:∃ q,pTerm f r out=q:=⟨_,rfl⟩
 have hT1:=fun w2 h2=>hT r out w2 hts (by omega) h2
 rw [hq] at hT1
 have hsz:B≤w.heap.size:=by obtain ⟨_,_,h'⟩:=h;exact h'.sz
 cases bad
 ·cases h41:isSymS r2 ⟨#[41]⟩
  ·have h41':isSym r2 41=false:=by cases r2 <;> simpa [isSym,isSymS] using h41
   have HE:Hid (pPart (f+1) (t :: r) out=⟨true,r2,o2⟩):=(show _=_ by rw [pPart.eq_def];simp [hy',hq,h41'])
   clear hq
   go_enter Tryz.func239,Tryz.ntmps239
   go_wp2_with (first|(go_at_call 178;refine (is_any B br en (t :: r) out _ _ h).mono ?_;rintro e w1 ⟨rfl,rfl⟩;rw [hy])|(go_at_call 177;refine (take_any B br en t r out _ h).mono ?_;rintro e w2 ⟨rfl,hp2,hx2⟩;simp only [tkV])|(go_at_call 112;refine (hT1 _ hp2).mono ?_;rintro e w3 ⟨hp3,hf3,hl3,hs3,rfl⟩;rw [show resV en ⟨false,r2,o2⟩=.nilIface from rfl])|(go_at_call 111;refine (need_no B br en r2 o2 _ _ hp3 h41).mono ?_;rintro e w4 ⟨rfl,rfl⟩;simp only [errV]))
   exact bodyPost_ret (v:=errV (posAt r2 en,4)) (by simp [results,Tryz.results239,go_sem,errV]) rfl (by rw [HE.out];exact ⟨hp3,(Fr.exc hsz hx2 (fun k hk=>.inl hk)).trans hf3,by simp at hl3 ⊢;omega,by simp at hs3 ⊢;omega,rfl⟩)
  ·cases r2 with
   | nil=>simp [isSymS] at h41
   | cons t2 r3 =>
   have h41':isSym (t2 :: r3) 41=true:=by simpa [isSym,isSymS] using h41
   have HE:Hid (pPart (f+1) (t :: r) out=⟨false,r3,o2⟩):=(show _=_ by rw [pPart.eq_def];simp [hy',hq,h41'])
   clear hq
   go_enter Tryz.func239,Tryz.ntmps239
   go_wp2_with (first|(go_at_call 178;refine (is_any B br en (t :: r) out _ _ h).mono ?_;rintro e w1 ⟨rfl,rfl⟩;rw [hy])|(go_at_call 177;refine (take_any B br en t r out _ h).mono ?_;rintro e w2 ⟨rfl,hp2,hx2⟩;simp only [tkV])|(go_at_call 112;refine (hT1 _ hp2).mono ?_;rintro e w3 ⟨hp3,hf3,hl3,hs3,rfl⟩;rw [show resV en ⟨false,t2 :: r3,o2⟩=.nilIface from rfl];have hsz3:B≤w3.heap.size:=(by obtain ⟨_,_,h'⟩:=hp3;exact h'.sz))|(go_at_call 111;refine (need_yes B br en t2 r3 o2 _ _ hp3 h41).mono ?_;rintro e w4 ⟨rfl,hp4,hx4⟩))
   exact bodyPost_ret (v:=.nilIface) (by simp [results,Tryz.results239,go_sem]) rfl (by rw [HE.out];exact ⟨hp4,((Fr.exc hsz hx2 (fun k hk=>.inl hk)).trans hf3).trans (Fr.exc hsz3 hx4 (fun k hk=>.inl hk)),by simp at hl3 ⊢;omega,by simp at hs3 ⊢;omega,rfl⟩)
 ·have HE:Hid (pPart (f+1) (t :: r) out=⟨true,r2,o2⟩):=(show _=_ by rw [pPart.eq_def];simp [hy',hq])
  clear hq
  go_enter Tryz.func239,Tryz.ntmps239
  go_wp2_with (first|(go_at_call 178;refine (is_any B br en (t :: r) out _ _ h).mono ?_;rintro e w1 ⟨rfl,rfl⟩;rw [hy])|(go_at_call 177;refine (take_any B br en t r out _ h).mono ?_;rintro e w2 ⟨rfl,hp2,hx2⟩;simp only [tkV])|(go_at_call 112;refine (hT1 _ hp2).mono ?_;rintro e w3 ⟨hp3,hf3,hl3,hs3,rfl⟩;rw [show resV en ⟨true,r2,o2⟩=errV (posAt r2 en,4) from rfl];simp only [errV]))
  exact bodyPost_ret (v:=errV (posAt r2 en,4)) (by simp [results,Tryz.results239,go_sem,errV]) rfl (by rw [HE.out];exact ⟨hp3,(Fr.exc hsz hx2 (fun k hk=>.inl hk)).trans hf3,by simp at hl3 ⊢;omega,by simp at hs3 ⊢;omega,rfl⟩)
end Go.Proofs.YtbljmfcifljkaaaGreatDoor
/-
  The program's parser: part, where no word comes. Own work.
-/
namespace Go.Proofs.YtbljmfcifljkaaaGreatDoor
open Go.RowKit
theorem part_noword (B br:Nat) (en:Int) (f:Nat) (ts:List Tk) (out:Rd) (w:World) (hts:ts.length≤f) (h:ParAt B br en w ts out) (hy:isSymS ts ⟨#[40]⟩=false) (hk:∀ t r,ts=t :: r → t.kind ≠ 1) :
  Calls Tryz.prog 239 #[.pointer (some ⟨br,0,none⟩)] w (PostP B br en w ts out (pPart f ts out)):=by
 have HE:Hid (pPart f ts out=⟨true,ts,out⟩):=(show _=_ by
  cases ts with
  | nil=>cases f <;> simp [pPart,isSym]
  | cons t r =>
   obtain ⟨g,rfl⟩:∃ g,f=g+1:=⟨f - 1,by simp at hts;omega⟩
   have hy':isSym (t :: r) 40=false:=by simpa [isSym,isSymS] using hy
   rw [pPart.eq_def];simp [hy',hk t r rfl])
 obtain ⟨vt,vo,h'⟩:=id h
 have c0:=h'.c0
 cases ts with
 | nil =>
  obtain ⟨a,c,rfl,hc⟩:=h'.tk.shape
  clear h' hk
  go_enter Tryz.func239,Tryz.ntmps239
  go_wp2_with (first|(go_at_call 178;refine (is_any B br en [] out _ _ h).mono ?_;rintro e w1 ⟨rfl,rfl⟩;rw [hy])|(go_at_call 110;refine (word_no B br en [] out _ h (by simp)).mono ?_;rintro e w2 ⟨rfl,rfl⟩;simp only [errV]))
  exact bodyPost_ret (v:=errV (posAt [] en,4)) (by simp [results,Tryz.results239,go_sem,errV]) rfl (by rw [HE.out];exact ⟨h,Fr.refl _ _ _,Nat.le_refl _,Nat.le_refl _,rfl⟩)
 | cons t r =>
  obtain ⟨b,o,c,rfl,hc,k0,k1,k2⟩:=h'.tk.head
  clear h'
  go_enter Tryz.func239,Tryz.ntmps239
  go_wp2_with (first|(go_at_call 178;refine (is_any B br en (t :: r) out _ _ h).mono ?_;rintro e w1 ⟨rfl,rfl⟩;rw [hy])|(go_at_call 110;refine (word_no B br en (t :: r) out _ h hk).mono ?_;rintro e w2 ⟨rfl,rfl⟩;simp only [errV]))
  exact bodyPost_ret (v:=errV (posAt (t :: r) en,4)) (by simp [results,Tryz.results239,go_sem,errV]) rfl (by rw [HE.out];exact ⟨h,Fr.refl _ _ _,Nat.le_refl _,Nat.le_refl _,rfl⟩)
end Go.Proofs.YtbljmfcifljkaaaGreatDoor
/-
  A region that draws its order: one operation that only moves a value is taken first, the others in two stages. Own work, over the library's laws on orders.
-/
namespace Go.Proofs.YtbljmfcifljkaaaGreatDoor
open Go.RowKit
section
variable {P:Program} {C:World → Prop} {N:Nat} {Q:Exit → Act → World → Prop}
def acts3B (ops:Array Oper) (f i0:Nat) (ord1 ord2:List Nat):Bool :=
 Region.noSelect ops && Region.free .any ops (Array.replicate ops.size false) i0 && (Region.ready .any ops (Array.replicate ops.size false)).contains i0 &&
  pairsB ops f ord1 && pairsB ops f ord2 && soundB ops (i0 :: (ord1 ++ ord2)) && decide (ord1.length+ord2.length+1=ops.size) && !(ord1 ++ ord2).contains i0 &&
  ord2.all (fun e=>ord1.all fun i=>needsB ops f e i && !Region.waitsFor .any ops i e && decide (i ≠ e)) &&
  (match ops[i0]? with
   | some o=>o.after.all fun e=>!Region.binds .any e
   | none=>false)
theorem region_acts3 {id:Nat} {a:Act} {w:World} {l:List Oper} (f i0:Nat) (ord1 ord2:List Nat) {o0:Oper} (v0:Value) (h0:l.toArray[i0]?=some o0) (hm:P.follows .mixedOrders=true) (hB:acts3B l.toArray f i0 ord1 ord2=true)
  (hQ:∀ c a w,Q (.panic c) (a.put o0.dst v0) w → Q (.panic c) a w) (hy:Yields P l.toArray o0 v0 a)
  (hG:Grows C N) (hC:C w.drew) (h:WX P l.toArray C N (fun _ a' w'=>Stage P l.toArray Q ord2 a' w') ord1 (fun _=>False) (a.put o0.dst v0) w.drew):(Code.region id l.toArray true).wp P Q a w:=by
 simp only [acts3B,Bool.and_eq_true,decide_eq_true_eq] at hB
 obtain ⟨⟨⟨⟨⟨⟨⟨⟨⟨hsel,hfree⟩,hready⟩,hp1⟩,hp2⟩,hsound⟩,hlen⟩,hnot⟩,hE⟩,hafter⟩:=hB
 simp only [soundB,Bool.and_eq_true,List.all_eq_true,decide_eq_true_eq,Bool.not_eq_true',List.mem_range,List.contains_iff_mem] at hsound
 obtain ⟨⟨h1,h2⟩,h3⟩:=hsound
 have hnot':i0 ∉ ord1 ++ ord2:=by simpa using hnot
 simp only [List.all_eq_true,Bool.and_eq_true,decide_eq_true_eq,Bool.not_eq_true'] at hE
 have hrange:∀ (j:Nat) (oj:Oper),l.toArray[j]?=some oj → ∀ e ∈ oj.after,Region.binds .any e=true → e.on<l.toArray.size:=fun j oj hj e he hb=>by
  have h4:=Array.all_eq_true'.1 h3 oj (Array.mem_of_getElem? hj)
  have h5:=Array.all_eq_true'.1 h4 e he
  simpa [hb] using h5
 have hself:∀ j,j<l.toArray.size → Region.waitsFor .any l.toArray j j=false:=fun j hj=>(h1 j (h2 j hj)).2
 have hi0:i0<l.toArray.size:=(Array.getElem?_eq_some_iff.1 h0).1
 refine wp_region_any hm ?_
 have key:∀ n,n=l.toArray.size → wpAny P .any l.toArray Q n (Array.replicate l.toArray.size false) a w.drew:=by
  intro n hn
  obtain rfl:n=ord1.length+ord2.length+1:=by omega
  refine wpAny_take h0 hsel hfree hready hQ hy ?_
  have hun:∀ k,k<l.toArray.size → (((Array.replicate l.toArray.size false).setIfInBounds i0 true).getD k true=false ↔ (k ∈ ord1∨k ∈ ord2)):=fun k hk=>by
   rw [getD_set_iff (by simpa using hi0)]
   constructor
   ·rintro ⟨_,hne⟩
    rcases List.mem_cons.1 (h2 k hk) with h|h
    ·exact absurd h hne
    ·exact List.mem_append.1 h
   ·intro hm
    exact ⟨getD_in (by simpa using hk) (getD_replicate_false _ _),fun e=>hnot' (by rw [← e];exact List.mem_append.2 hm)⟩
  refine WX_any2 ord2 ord2.length (Region.noSelect_spec hsel) hG f hrange hself ord1.length ord1 _ (fun _=>False) _ _ rfl (pairsB_spec ord1 hp1) (fun i hi=>(h1 i (List.mem_cons_of_mem _ (List.mem_append_left _ hi))).1) (by simp) hun
   (fun e he i hi=>⟨(hE e he i hi).1.1,(hE e he i hi).1.2,(hE e he i hi).2⟩) (fun j oj hj hl e he hb=>?_) hC (fun k hk=>hk.elim) ?_ h
  ·exfalso
   by_cases hji:i0=j
   ·subst hji
    rw [h0] at hj
    obtain rfl:=Option.some.inj hj
    rw [h0] at hafter
    have h5:=Array.all_eq_true'.1 hafter e he
    simp [hb] at h5
   ·rw [getD_set_ne false hji,getD_replicate_false] at hl
    cases hl
  ·rintro listed a' w' hsz hun' hcl ⟨C2,N2,hG2,hC2,hW2⟩
   exact WX_any (Region.noSelect_spec hsel) hG2 f hrange hself ord2.length ord2 listed (fun _=>False) a' w' rfl (pairsB_spec ord2 hp2) (fun i hi=>(h1 i (List.mem_cons_of_mem _ (List.mem_append_right _ hi))).1) hsz hun' hcl hC2 (fun k hk=>hk.elim) hW2
 exact key _ rfl
end
end Go.Proofs.YtbljmfcifljkaaaGreatDoor
/-
  The program's parser: part, at a word. Own work; by a program of my own (parI.py).
-/
namespace Go.Proofs.YtbljmfcifljkaaaGreatDoor
open Go.RowKit
theorem grown_more {w w1 w2:World} {row:Option Nat} (h:w.grownBy w1 row) (hb:Below w1.heap.size w1 w2):w.grownBy w2 row :=
 ⟨hb.os.trans h.os,hb.tape.trans h.tape,hb.output.trans h.output,Nat.le_trans h.size hb.size,fun k hk hr=>(hb.block k (Nat.lt_of_lt_of_le hk h.size)).trans (h.block k hk hr)⟩
theorem par_exc {T:Nat → Prop} {B br:Nat} {en:Int} {w w':World} {vt vo:Value} {ts:List Tk} {out:Rd} (h:ParV B br en w vt vo ts out) (hE:Exc T w w') (hT:∀ k,T k → B≤k∧vo.ownBlock ≠ some k):ParV B br en w' vt vo ts out:=by
 have hn:¬ T br:=fun ht=>by have:=(hT br ht).1;have:=h.lt;omega
 have hbr:br<w.heap.size:=Nat.lt_of_lt_of_le h.lt h.sz
 have hF:Fr B br w w':=Fr.exc h.sz hE (fun k hk=>.inr (hT k hk).1)
 exact ⟨h.lt,Nat.le_trans h.sz hE.size,(hE.cell.1 br 0 hbr hn).trans h.c0,(hE.cell.1 br 1 hbr hn).trans h.c1,(hE.cell.1 br 2 hbr hn).trans h.c2,fun i=>(hE.cell.2 br i hbr hn).trans (h.fz i),h.tk.fr hF h.low,h.low,owns_exc hE h.own (fun k hk ht=>(hT k ht).2 hk),h.nil⟩
theorem own_type {w:World} {B e sz:Nat} {v:Value} {n:Nat} {xs:List Value} (h:w.ownsRow B e sz v n xs) {k t:Nat} {cs:Array Value} (hk:w.heap[k]?=some (.cells cs t)) (ne:t ≠ e):v.ownBlock ≠ some k:=by
 intro hv
 rcases h.2 with ⟨rfl,_⟩|⟨g,cap,cur,rfl,_,hgg,_⟩
 ·simp [Value.ownBlock] at hv
 simp [Value.ownBlock] at hv
 subst hv
 rw [hk] at hgg
 simp at hgg
 exact ne hgg.2
theorem bytes_below (w:World) (e:TypeId) (s:ByteArray):Below w.heap.size w (Lib.bytesWorld w e s):=⟨rfl,rfl,rfl,by rw [Lib.bytesWorld_size];omega,fun j hj=>Lib.bytesWorld_at_old w e s j hj⟩
theorem wrdV_no {k:Int} (h:¬ (k=1∨k=7∨k=13)):(k == 1)=false∧valB k=false:=by
 simp only [not_or] at h
 simp [valB,h.1,h.2.1,h.2.2]
theorem part_name (B br:Nat) (en:Int) (f:Nat) (t:Tk) (r:List Tk) (out:Rd) (w:World) (h:ParAt B br en w (t :: r) out) (hsum:out.length+((r).length+1)≤40000) (hk:t.kind=1) (h1:kindOfW t.text=17) :
  Calls Tryz.prog 239 #[.pointer (some ⟨br,0,none⟩)] w (PostP B br en w (t :: r) out (pPart (f+1) (t :: r) out)):=by
 have hy:isSymS (t :: r) ⟨#[40]⟩=false:=by simp [isSymS,hk]
 have hy':isSym (t :: r) 40=false:=by simp [isSym,hk]
 have HE:Hid (pPart (f+1) (t :: r) out=⟨false,r,out ++ [(⟨17,0,t.text⟩,t.pos)]⟩):=(show _=_ by rw [pPart.eq_def];simp [hy',hk,h1,nodeOf])
 obtain ⟨i0,hi,hz0,hz1,hz2⟩:=info_parts infoRd
 obtain ⟨vt,vo,h'⟩:=id h
 have c0:=h'.c0
 have hsz:=h'.sz
 obtain ⟨b,o,c,rfl,hc,k0,k1,k2⟩:=h'.tk.head
 clear h'
 have HK:=Lib.hid hk
 clear hk
 have H1:=Lib.hid h1
 clear h1
 go_enter Tryz.func239,Tryz.ntmps239
 go_wp2_with (first|(go_at_call 178;refine (is_any B br en (t :: r) out _ _ h).mono ?_;rintro e w1 ⟨rfl,rfl⟩;rw [hy])|(go_at_call 110;refine (word_yes B br en t (r) out _ h HK.out).mono ?_;rintro e w2 ⟨rfl,⟨vt2,vo2,hv2⟩,hx2⟩;obtain ⟨ao,cp,rfl⟩:=owns_shape' hv2.own)|(go_at_call 185;refine (kindOf_any _ _).mono ?_;rintro e w3 ⟨rfl,hb3⟩;rw [H1.out];have hv3:=par_below hv2 hb3;have q2:=hv3.c2;have hbr3:br<w3.heap.size:=Nat.lt_of_lt_of_le hv3.lt hv3.sz)|(go_at_call 191;refine (hasValue_any _ _).mono ?_;rintro e w4 ⟨rfl,rfl⟩;rw [show valB 17=false from rfl]))
 obtain ⟨W,hW⟩:∃ W,W=w3.alloc (.cells #[.int .i64 17,.int .i64 0,.string t.text] 144):=⟨_,rfl⟩
 rw [← hW]
 obtain ⟨nb,hnb0⟩:∃ nb,nb=w3.heap.size:=⟨_,rfl⟩
 rw [← hnb0]
 have hvW:ParV B br en W vt2 (Value.slice ao out.length cp) r out:=by rw [hW];exact par_below hv3 (alloc_below _ _)
 have n0:W.cell? ⟨nb,0,none⟩=some (.int .i64 17):=by rw [hW,hnb0];simp
 have n1:W.cell? ⟨nb,1,none⟩=some (.int .i64 0):=by rw [hW,hnb0];simp
 have n2:W.cell? ⟨nb,2,none⟩=some (.string t.text):=by rw [hW,hnb0];simp
 have nbW:nb<W.heap.size:=by rw [hW,hnb0];simp
 have nbB:B≤nb:=by rw [hnb0];exact hv3.sz
 have hFW:Fr B br w W:=(Fr.exc hsz hx2 (fun k hk=>.inl hk)).trans ((Fr.below hv2.sz hb3).trans (by rw [hW];exact Fr.below hv3.sz (alloc_below _ _)))
 clear hW hnb0 hv3 q2 hbr3 hb3 hx2 hv2
 have q2:=hvW.c2
 have f2:=hvW.fz 2
 have hbrW:br<W.heap.size:=Nat.lt_of_lt_of_le hvW.lt hvW.sz
 have hnbr:¬ nb=br:=by have:=hvW.lt;omega
 have hown0:(Value.slice ao out.length cp).ownBlock ≠ some br:=fun e=>by have:=(World.ownsRow.lt hvW.own _ e).1;have:=hvW.lt;omega
 refine region_acts3 (C:=Exc (NoT) _) 9 0 [1,2,3,4,5,6,7,8] [9,10,11,12] (.pointer (some ⟨br,0,none⟩)) rfl (by kernel_rfl) (by kernel_rfl) (fun _ _ _ h=>h) (Or.inl ⟨by rfl,fun _=>by go_simp⟩) (Exc.grows _ _) (Exc.refl _ _) ?_
 go_simp
 iterate 7 (apply x_st rfl rfl rfl;(focus intro u hc' hf';go_simp <;> rfl);intro K hK;go_simp;apply hK;clear hK K)
 refine x_make rfl rfl rfl (Exc.grows _ _) (Exc.refl _ _) (fun b=>.slice (some ⟨b,0,none⟩) 1 1) (fun K hK=>?_)
 apply Exists.intro
 refine ⟨fun w' hw'=>?_,fun bb w5 hw5 hb5 hbo hNb hnb=>?_⟩
 ·obtain ⟨hc',hf'⟩:=hw'.cell
  try simp only [World.size_drew] at hc' hf'
  go_simp
  rfl
 go_simp
 refine hK _ _ _ ?_
 clear hK K
 refine x_nil ?_
 have hb6:Below W.heap.size W w5:=(Below.refl _ W).drew.trans ((hw5.toBelow).mono (by simp))
 have hv6:=par_below hvW hb6
 refine ⟨Exc (fun k=>k=br∨(Value.slice ao out.length cp).ownBlock=some k) w5,w5.heap.size,Exc.grows _ _,Exc.refl _ _,?_⟩
 refine x_src rfl rfl rfl (Exc.refl _ _) (.tmp 87) (.tmp 91) 159 rfl B 250 i0 _ 4 40 Tryz.underlying159 hi hz0 hz1 hz2 rfl (by decide) (.slice ao out.length cp) out.length (out.flatMap rdCells) rfl (fun k hk=>.inl ⟨(World.ownsRow.lt hv6.own k hk).2,.inr hk⟩) (.slice (some ⟨bb,0,none⟩) 1 1) 1 (rdCells (⟨17,0,t.text⟩,t.pos)) rfl ?c1 (by unfold maxLen;omega) (by omega) hv6.sz ?c2 ?_
 case c1=>intro u hu;simp [rdCells] at hu;rcases hu with rfl|rfl|rfl|rfl <;> rfl
 case c2 =>
  intro w8 hw8 hb8
  refine ⟨owns_keep hb8 hv6.own,rfl,.inr ⟨_,1,rfl,?_⟩⟩
  obtain ⟨m0,m1,m2⟩:=made_cell ((hb8.block bb (made_cell hbo).2.2).trans hbo)
  intro j u hj
  match j,hj with
  | 0,hj=>simp [rdCells] at hj;subst hj;simp [Addr.add,m0]
  | 1,hj=>simp [rdCells] at hj;subst hj;simp [Addr.add,m0]
  | 2,hj=>simp [rdCells] at hj;subst hj;simp [Addr.add,m0]
  | 3,hj=>simp [rdCells] at hj;subst hj;simp [Addr.add,m0]
 intro K hK w8 w9 v9 hw8 hb8 hown9 hgr9 hw9 ho9
 obtain ⟨a9,c9,rfl⟩:=owns_shape' hown9
 go_simp
 refine hK _ _ _ ?_
 clear hK K
 iterate 2 (apply x_sT rfl rfl rfl;(focus intro u hc' hf';(try simp only [World.size_drew] at hc' hf');go_simp <;> rfl);intro K hK;go_simp;apply hK;clear hK K)
 refine x_do rfl rfl rfl (Exc.grows _ _) hw9 (fun K hK=>?_)
 intro w10 hw10 hb10
 have hv8:=par_below hv6 hb8
 have hbr8:br<w8.heap.size:=Nat.lt_of_lt_of_le hv8.lt hv8.sz
 have hE9:Exc (fun k=>(Value.slice ao out.length cp).ownBlock=some k) w8 w9:=(Exc.refl _ _).grown hgr9 (fun k hk=>.inr hk)
 have k9:=cell_keep hb10 ((hE9.cell.1 br 2 hbr8 hown0).trans hv8.c2)
 have f9:w10.frozen? ⟨br,2,none⟩=false:=(hb10.frozen (p:=⟨br,2,none⟩) (by have:=hE9.size;simp;omega)).trans ((hE9.cell.2 br 2 hbr8 hown0).trans (hv8.fz 2))
 have s9:=cell_lt k9
 have hPP:=par_push (⟨17,0,t.text⟩,t.pos) hv8 (grown_more hgr9 hb10) (owns_keep hb10 hown9)
 have hbr5:br<w5.heap.size:=Nat.lt_of_lt_of_le hv6.lt hv6.sz
 refine ⟨w10.setCell ⟨br,2,none⟩ (.slice a9 (out.length+1) c9),?_,⟨exc_set hw10 (.inr (.inl rfl)) _,by simp,fun j hj _ _=>by rw [Below.heap_setCell _ _ _ _ (by show ¬ _=_;intro hh;simp only at hh;omega)]⟩,?_⟩
 ·go_simp
 go_simp
 refine hK _ _ _ ?_
 clear hK K
 refine x_nil ?_
 have hF6:=(hFW.trans (Fr.below hvW.sz (hb6.trans (hb8.mono hb6.size)))).trans hPP.2
 go_wp2
 exact bodyPost_ret (v:=.nilIface) (by simp [results,Tryz.results239,go_sem]) rfl (by rw [HE.out];exact ⟨⟨_,_,hPP.1⟩,hF6,by simp <;> omega,by simp <;> omega,rfl⟩)
theorem part_bare (B br:Nat) (en:Int) (f:Nat) (t:Tk) (r:List Tk) (out:Rd) (w:World) (h:ParAt B br en w (t :: r) out) (hsum:out.length+((r).length+1)≤40000) (hk:t.kind=1) (h1:¬ (kindOfW t.text=1∨kindOfW t.text=7∨kindOfW t.text=13)) (h2:kindOfW t.text ≠ 17) :
  Calls Tryz.prog 239 #[.pointer (some ⟨br,0,none⟩)] w (PostP B br en w (t :: r) out (pPart (f+1) (t :: r) out)):=by
 have hy:isSymS (t :: r) ⟨#[40]⟩=false:=by simp [isSymS,hk]
 have hy':isSym (t :: r) 40=false:=by simp [isSym,hk]
 have HE:Hid (pPart (f+1) (t :: r) out=⟨false,r,out ++ [(⟨kindOfW t.text,0,⟨#[]⟩⟩,t.pos)]⟩):=(show _=_ by rw [pPart.eq_def];simp [hy',hk,h1,h2,nodeOf])
 obtain ⟨i0,hi,hz0,hz1,hz2⟩:=info_parts infoRd
 obtain ⟨vt,vo,h'⟩:=id h
 have c0:=h'.c0
 have hsz:=h'.sz
 obtain ⟨b,o,c,rfl,hc,k0,k1,k2⟩:=h'.tk.head
 clear h'
 have HK:=Lib.hid hk
 clear hk
 obtain ⟨g1,g2⟩:=wrdV_no h1
 have g3:(kindOfW t.text == 17)=false:=by simpa using h2
 clear h1 h2
 obtain ⟨kw,hkw⟩:∃ kw,kindOfW t.text=kw:=⟨_,rfl⟩
 rw [hkw] at g1 g2 g3 HE
 have HKW:=Lib.hid hkw
 clear hkw
 go_enter Tryz.func239,Tryz.ntmps239
 go_wp2_with (first|(go_at_call 178;refine (is_any B br en (t :: r) out _ _ h).mono ?_;rintro e w1 ⟨rfl,rfl⟩;rw [hy])|(go_at_call 110;refine (word_yes B br en t (r) out _ h HK.out).mono ?_;rintro e w2 ⟨rfl,⟨vt2,vo2,hv2⟩,hx2⟩;obtain ⟨ao,cp,rfl⟩:=owns_shape' hv2.own)|(go_at_call 185;refine (kindOf_any _ _).mono ?_;rintro e w3 ⟨rfl,hb3⟩;rw [HKW.out];have hv3:=par_below hv2 hb3;have q2:=hv3.c2;have hbr3:br<w3.heap.size:=Nat.lt_of_lt_of_le hv3.lt hv3.sz)|(go_at_call 191;refine (hasValue_any _ _).mono ?_;rintro e w4 ⟨rfl,rfl⟩;rw [g2]))
 obtain ⟨W,hW⟩:∃ W,W=w3.alloc (.cells #[.int .i64 kw,.int .i64 0,.string ⟨#[]⟩] 144):=⟨_,rfl⟩
 rw [← hW]
 obtain ⟨nb,hnb0⟩:∃ nb,nb=w3.heap.size:=⟨_,rfl⟩
 rw [← hnb0]
 have hvW:ParV B br en W vt2 (Value.slice ao out.length cp) r out:=by rw [hW];exact par_below hv3 (alloc_below _ _)
 have n0:W.cell? ⟨nb,0,none⟩=some (.int .i64 kw):=by rw [hW,hnb0];simp
 have n1:W.cell? ⟨nb,1,none⟩=some (.int .i64 0):=by rw [hW,hnb0];simp
 have n2:W.cell? ⟨nb,2,none⟩=some (.string ⟨#[]⟩):=by rw [hW,hnb0];simp
 have nbW:nb<W.heap.size:=by rw [hW,hnb0];simp
 have nbB:B≤nb:=by rw [hnb0];exact hv3.sz
 have hFW:Fr B br w W:=(Fr.exc hsz hx2 (fun k hk=>.inl hk)).trans ((Fr.below hv2.sz hb3).trans (by rw [hW];exact Fr.below hv3.sz (alloc_below _ _)))
 clear hW hnb0 hv3 q2 hbr3 hb3 hx2 hv2
 have q2:=hvW.c2
 have f2:=hvW.fz 2
 have hbrW:br<W.heap.size:=Nat.lt_of_lt_of_le hvW.lt hvW.sz
 have hnbr:¬ nb=br:=by have:=hvW.lt;omega
 have hown0:(Value.slice ao out.length cp).ownBlock ≠ some br:=fun e=>by have:=(World.ownsRow.lt hvW.own _ e).1;have:=hvW.lt;omega
 refine region_acts3 (C:=Exc (NoT) _) 9 0 [1,2,3,4,5,6,7,8] [9,10,11,12] (.pointer (some ⟨br,0,none⟩)) rfl (by kernel_rfl) (by kernel_rfl) (fun _ _ _ h=>h) (Or.inl ⟨by rfl,fun _=>by go_simp⟩) (Exc.grows _ _) (Exc.refl _ _) ?_
 go_simp
 iterate 7 (apply x_st rfl rfl rfl;(focus intro u hc' hf';go_simp <;> rfl);intro K hK;go_simp;apply hK;clear hK K)
 refine x_make rfl rfl rfl (Exc.grows _ _) (Exc.refl _ _) (fun b=>.slice (some ⟨b,0,none⟩) 1 1) (fun K hK=>?_)
 apply Exists.intro
 refine ⟨fun w' hw'=>?_,fun bb w5 hw5 hb5 hbo hNb hnb=>?_⟩
 ·obtain ⟨hc',hf'⟩:=hw'.cell
  try simp only [World.size_drew] at hc' hf'
  go_simp
  rfl
 go_simp
 refine hK _ _ _ ?_
 clear hK K
 refine x_nil ?_
 have hb6:Below W.heap.size W w5:=(Below.refl _ W).drew.trans ((hw5.toBelow).mono (by simp))
 have hv6:=par_below hvW hb6
 refine ⟨Exc (fun k=>k=br∨(Value.slice ao out.length cp).ownBlock=some k) w5,w5.heap.size,Exc.grows _ _,Exc.refl _ _,?_⟩
 refine x_src rfl rfl rfl (Exc.refl _ _) (.tmp 87) (.tmp 91) 159 rfl B 250 i0 _ 4 40 Tryz.underlying159 hi hz0 hz1 hz2 rfl (by decide) (.slice ao out.length cp) out.length (out.flatMap rdCells) rfl (fun k hk=>.inl ⟨(World.ownsRow.lt hv6.own k hk).2,.inr hk⟩) (.slice (some ⟨bb,0,none⟩) 1 1) 1 (rdCells (⟨kw,0,⟨#[]⟩⟩,t.pos)) rfl ?c1 (by unfold maxLen;omega) (by omega) hv6.sz ?c2 ?_
 case c1=>intro u hu;simp [rdCells] at hu;rcases hu with rfl|rfl|rfl|rfl <;> rfl
 case c2 =>
  intro w8 hw8 hb8
  refine ⟨owns_keep hb8 hv6.own,rfl,.inr ⟨_,1,rfl,?_⟩⟩
  obtain ⟨m0,m1,m2⟩:=made_cell ((hb8.block bb (made_cell hbo).2.2).trans hbo)
  intro j u hj
  match j,hj with
  | 0,hj=>simp [rdCells] at hj;subst hj;simp [Addr.add,m0]
  | 1,hj=>simp [rdCells] at hj;subst hj;simp [Addr.add,m0]
  | 2,hj=>simp [rdCells] at hj;subst hj;simp [Addr.add,m0]
  | 3,hj=>simp [rdCells] at hj;subst hj;simp [Addr.add,m0]
 intro K hK w8 w9 v9 hw8 hb8 hown9 hgr9 hw9 ho9
 obtain ⟨a9,c9,rfl⟩:=owns_shape' hown9
 go_simp
 refine hK _ _ _ ?_
 clear hK K
 iterate 2 (apply x_sT rfl rfl rfl;(focus intro u hc' hf';(try simp only [World.size_drew] at hc' hf');go_simp <;> rfl);intro K hK;go_simp;apply hK;clear hK K)
 refine x_do rfl rfl rfl (Exc.grows _ _) hw9 (fun K hK=>?_)
 intro w10 hw10 hb10
 have hv8:=par_below hv6 hb8
 have hbr8:br<w8.heap.size:=Nat.lt_of_lt_of_le hv8.lt hv8.sz
 have hE9:Exc (fun k=>(Value.slice ao out.length cp).ownBlock=some k) w8 w9:=(Exc.refl _ _).grown hgr9 (fun k hk=>.inr hk)
 have k9:=cell_keep hb10 ((hE9.cell.1 br 2 hbr8 hown0).trans hv8.c2)
 have f9:w10.frozen? ⟨br,2,none⟩=false:=(hb10.frozen (p:=⟨br,2,none⟩) (by have:=hE9.size;simp;omega)).trans ((hE9.cell.2 br 2 hbr8 hown0).trans (hv8.fz 2))
 have s9:=cell_lt k9
 have hPP:=par_push (⟨kw,0,⟨#[]⟩⟩,t.pos) hv8 (grown_more hgr9 hb10) (owns_keep hb10 hown9)
 have hbr5:br<w5.heap.size:=Nat.lt_of_lt_of_le hv6.lt hv6.sz
 refine ⟨w10.setCell ⟨br,2,none⟩ (.slice a9 (out.length+1) c9),?_,⟨exc_set hw10 (.inr (.inl rfl)) _,by simp,fun j hj _ _=>by rw [Below.heap_setCell _ _ _ _ (by show ¬ _=_;intro hh;simp only at hh;omega)]⟩,?_⟩
 ·go_simp
 go_simp
 refine hK _ _ _ ?_
 clear hK K
 refine x_nil ?_
 have hF6:=(hFW.trans (Fr.below hvW.sz (hb6.trans (hb8.mono hb6.size)))).trans hPP.2
 go_wp2
 exact bodyPost_ret (v:=.nilIface) (by simp [results,Tryz.results239,go_sem]) rfl (by rw [HE.out];exact ⟨⟨_,_,hPP.1⟩,hF6,by simp <;> omega,by simp <;> omega,rfl⟩)
theorem part_noval (B br:Nat) (en:Int) (f:Nat) (t:Tk) (r:List Tk) (out:Rd) (w:World) (h:ParAt B br en w (t :: r) out) (hsum:out.length+((r).length+1)≤40000) (hk:t.kind=1) (h1:kindOfW t.text=1∨kindOfW t.text=7∨kindOfW t.text=13) (hn:∀ n r2,r=n :: r2 → n.kind ≠ 2) :
  Calls Tryz.prog 239 #[.pointer (some ⟨br,0,none⟩)] w (PostP B br en w (t :: r) out (pPart (f+1) (t :: r) out)):=by
 have hy:isSymS (t :: r) ⟨#[40]⟩=false:=by simp [isSymS,hk]
 have hy':isSym (t :: r) 40=false:=by simp [isSym,hk]
 have HE:Hid (pPart (f+1) (t :: r) out=⟨true,r,out⟩):=(show _=_ by rw [pPart.eq_def];cases r with|nil=>simp [hy',hk,h1]|cons n r2=>simp [hy',hk,h1,hn n r2 rfl])
 obtain ⟨i0,hi,hz0,hz1,hz2⟩:=info_parts infoRd
 obtain ⟨vt,vo,h'⟩:=id h
 have c0:=h'.c0
 have hsz:=h'.sz
 obtain ⟨b,o,c,rfl,hc,k0,k1,k2⟩:=h'.tk.head
 clear h'
 have HK:=Lib.hid hk
 clear hk
 obtain ⟨kw,hkw⟩:∃ kw,kindOfW t.text=kw:=⟨_,rfl⟩
 rw [hkw] at h1
 have HKW:=Lib.hid hkw
 clear hkw
 have hgg:(kw == 1)=true∨((kw == 1)=false∧valB kw=true):=by rcases h1 with rfl|rfl|rfl <;> simp [valB]
 clear h1
 have hr:r=[]∨∃ n r2,r=n :: r2∧(n.kind != 2)=true:=by
  cases r with
  | nil=>exact .inl rfl
  | cons n r2=>exact .inr ⟨n,r2,rfl,by simpa using hn n r2 rfl⟩
 clear hn
 rcases hr with rfl|⟨n,r2,rfl,g2⟩
 ·rcases hgg with g1|⟨g1,g3⟩
  all_goals
   go_enter Tryz.func239,Tryz.ntmps239
   go_wp2_with (first|(go_at_call 178;refine (is_any B br en (t :: []) out _ _ h).mono ?_;rintro e w1 ⟨rfl,rfl⟩;rw [hy])|(go_at_call 110;refine (word_yes B br en t ([]) out _ h HK.out).mono ?_;rintro e w2 ⟨rfl,⟨vt2,vo2,hv2⟩,hx2⟩;obtain ⟨ao,cp,rfl⟩:=owns_shape' hv2.own)|(go_at_call 185;refine (kindOf_any _ _).mono ?_;rintro e w3 ⟨rfl,hb3⟩;rw [HKW.out];have hv3:=par_below hv2 hb3;have q2:=hv3.c2;have hbr3:br<w3.heap.size:=Nat.lt_of_lt_of_le hv3.lt hv3.sz;have hvW:=par_below hv3 (alloc_below w3 (.cells #[.int .i64 kw,.int .i64 0,.string ⟨#[]⟩] 144));have hFW:Fr B br w (w3.alloc (.cells #[.int .i64 kw,.int .i64 0,.string ⟨#[]⟩] 144)):=(Fr.exc hsz hx2 (fun k hk=>.inl hk)).trans ((Fr.below hv2.sz hb3).trans (Fr.below hv3.sz (alloc_below _ _))); have z0:=hvW.c0;obtain ⟨a3,c3,rfl,hc3⟩:=hvW.tk.shape)|(go_at_call 191;refine (hasValue_any _ _).mono ?_;rintro e w4 ⟨rfl,rfl⟩;rw [g3])|(go_at_call 176;refine (wrong_any B br en ([]) out _ ⟨_,_,hvW⟩).mono ?_;rintro e w6 ⟨rfl,rfl⟩;simp only [errV]))
   exact bodyPost_ret (v:=errV (posAt [] en,4)) (by simp [results,Tryz.results239,go_sem,errV]) rfl (by rw [HE.out];exact ⟨⟨_,_,hvW⟩,hFW,by simp,by simp,rfl⟩)
 ·rcases hgg with g1|⟨g1,g3⟩
  all_goals
   go_enter Tryz.func239,Tryz.ntmps239
   go_wp2_with (first|(go_at_call 178;refine (is_any B br en (t :: n :: r2) out _ _ h).mono ?_;rintro e w1 ⟨rfl,rfl⟩;rw [hy])|(go_at_call 110;refine (word_yes B br en t (n :: r2) out _ h HK.out).mono ?_;rintro e w2 ⟨rfl,⟨vt2,vo2,hv2⟩,hx2⟩;obtain ⟨ao,cp,rfl⟩:=owns_shape' hv2.own)|(go_at_call 185;refine (kindOf_any _ _).mono ?_;rintro e w3 ⟨rfl,hb3⟩;rw [HKW.out];have hv3:=par_below hv2 hb3;have q2:=hv3.c2;have hbr3:br<w3.heap.size:=Nat.lt_of_lt_of_le hv3.lt hv3.sz;have hvW:=par_below hv3 (alloc_below w3 (.cells #[.int .i64 kw,.int .i64 0,.string ⟨#[]⟩] 144));have hFW:Fr B br w (w3.alloc (.cells #[.int .i64 kw,.int .i64 0,.string ⟨#[]⟩] 144)):=(Fr.exc hsz hx2 (fun k hk=>.inl hk)).trans ((Fr.below hv2.sz hb3).trans (Fr.below hv3.sz (alloc_below _ _))); have z0:=hvW.c0;obtain ⟨b3,o3,c3,rfl,hc3,j0,j1,j2⟩:=hvW.tk.head)|(go_at_call 191;refine (hasValue_any _ _).mono ?_;rintro e w4 ⟨rfl,rfl⟩;rw [g3])|(go_at_call 176;refine (wrong_any B br en (n :: r2) out _ ⟨_,_,hvW⟩).mono ?_;rintro e w6 ⟨rfl,rfl⟩;simp only [errV]))
   exact bodyPost_ret (v:=errV (posAt (n :: r2) en,4)) (by simp [results,Tryz.results239,go_sem,errV]) rfl (by rw [HE.out];exact ⟨⟨_,_,hvW⟩,hFW,by simp,by simp,rfl⟩)
theorem part_val (B br:Nat) (en:Int) (f:Nat) (t:Tk) (n:Tk) (r:List Tk) (out:Rd) (w:World) (h:ParAt B br en w (t :: n :: r) out) (hsum:out.length+((n :: r).length+1)≤40000) (hk:t.kind=1) (h1:kindOfW t.text=1∨kindOfW t.text=7∨kindOfW t.text=13) (hn:n.kind=2) :
  Calls Tryz.prog 239 #[.pointer (some ⟨br,0,none⟩)] w (PostP B br en w (t :: n :: r) out (pPart (f+1) (t :: n :: r) out)):=by
 have hy:isSymS (t :: n :: r) ⟨#[40]⟩=false:=by simp [isSymS,hk]
 have hy':isSym (t :: n :: r) 40=false:=by simp [isSym,hk]
 have HE:Hid (pPart (f+1) (t :: n :: r) out=⟨false,r,out ++ [(⟨kindOfW t.text,numV n.text,⟨#[]⟩⟩,t.pos)]⟩):=(show _=_ by rw [pPart.eq_def];simp [hy',hk,h1,hn])
 obtain ⟨i0,hi,hz0,hz1,hz2⟩:=info_parts infoRd
 obtain ⟨vt,vo,h'⟩:=id h
 have c0:=h'.c0
 have hsz:=h'.sz
 obtain ⟨b,o,c,rfl,hc,k0,k1,k2⟩:=h'.tk.head
 have hnum:=h'.tk.1.tail.head.num hn
 clear h'
 have HK:=Lib.hid hk
 clear hk
 obtain ⟨kw,hkw⟩:∃ kw,kindOfW t.text=kw:=⟨_,rfl⟩
 rw [hkw] at h1 HE
 have HKW:=Lib.hid hkw
 clear hkw
 have hgg:(kw == 1)=true∨((kw == 1)=false∧valB kw=true):=by rcases h1 with rfl|rfl|rfl <;> simp [valB]
 have h17:(kw == 17)=false:=by rcases h1 with rfl|rfl|rfl <;> rfl
 have g2:(n.kind != 2)=false:=by simp [hn]
 clear h1 hn
 obtain ⟨nv,hnv⟩:∃ nv,numV n.text=nv:=⟨_,rfl⟩
 have HAT:Hid (Lib.atoi n.text.data.toList=some nv∧n.text.size≤18):=(show _∧_ from ⟨by rw [← hnv];exact atoi_digs hnum.1 hnum.2.1,by omega⟩)
 rw [hnv] at HE
 clear hnv hnum
 have hfd:∀ w:World,(Instr.field 87 (.agg #[.int .i64 n.kind,.string n.text,.int .i64 n.pos]) 1).run Tryz.prog w=.ok (.string n.text) w:=fun _=>by kernel_rfl
 rcases hgg with g1|⟨g1,g3⟩
 all_goals
  go_enter Tryz.func239,Tryz.ntmps239
  go_wp2_with (first|(go_at_call 178;refine (is_any B br en (t :: n :: r) out _ _ h).mono ?_;rintro e w1 ⟨rfl,rfl⟩;rw [hy])|(go_at_call 110;refine (word_yes B br en t (n :: r) out _ h HK.out).mono ?_;rintro e w2 ⟨rfl,⟨vt2,vo2,hv2⟩,hx2⟩;obtain ⟨ao,cp,rfl⟩:=owns_shape' hv2.own)|(go_at_call 185;refine (kindOf_any _ _).mono ?_;rintro e w3 ⟨rfl,hb3⟩;rw [HKW.out];have hv3:=par_below hv2 hb3;have q2:=hv3.c2;have hbr3:br<w3.heap.size:=Nat.lt_of_lt_of_le hv3.lt hv3.sz;have hvX:=par_below hv3 (alloc_below w3 (.cells #[.int .i64 kw,.int .i64 0,.string ⟨#[]⟩] 144));have z0:=hvX.c0;obtain ⟨b3,o3,c3,rfl,hc3,j0,j1,j2⟩:=hvX.tk.head)|(go_at_call 191;refine (hasValue_any _ _).mono ?_;rintro e w4 ⟨rfl,rfl⟩;rw [g3])|(go_at_call 177;refine (take_any B br en n r out _ ⟨_,_,hvX⟩).mono ?_;rintro e w5 ⟨rfl,⟨vt5,vo5,hv5⟩,hx5⟩;simp only [tkV];obtain ⟨ao5,cp5,rfl⟩:=owns_shape' hv5.own)|(go_at_call 131;refine (Tryz.strconv_Atoi _ _ HAT.out.2 HAT.out.1 _).mono ?_;rintro e w6 ⟨rfl,txt6,hw6⟩;have hb6:Below w5.heap.size w5 w6:=(by rw [hw6];exact bytes_below _ _ _);clear hw6;have hB3:=hv3.sz;have hB0:=hv3.lt;have hnn:¬ w3.heap.size=br:=(by omega);have x0:w6.cell? ⟨w3.heap.size,0,none⟩=some (.int .i64 kw):=cell_keep hb6 ((hx5.cell.1 w3.heap.size 0 (by simp) hnn).trans (by simp));have x1:w6.cell? ⟨w3.heap.size,1,none⟩=some (.int .i64 0):=cell_keep hb6 ((hx5.cell.1 w3.heap.size 1 (by simp) hnn).trans (by simp));have x2:w6.cell? ⟨w3.heap.size,2,none⟩=some (.string ⟨#[]⟩):=cell_keep hb6 ((hx5.cell.1 w3.heap.size 2 (by simp) hnn).trans (by simp));have xf:w6.frozen? ⟨w3.heap.size,1,none⟩=false:=(hb6.frozen (p:=⟨w3.heap.size,1,none⟩) (by have:=hx5.size;simp at this;simp;omega)).trans ((hx5.cell.2 w3.heap.size 1 (by simp) hnn).trans (by simp));have hob:=own_type hv5.own (k:=w3.heap.size) ((hx5.block w3.heap.size (by simp) hnn).trans (heap_alloc_new _ _)) (by decide);have s6:=cell_lt x0))
  obtain ⟨nb,hnb0⟩:∃ nb,nb=w3.heap.size:=⟨_,rfl⟩
  rw [← hnb0] at x0 x1 x2 xf hob hnn s6 ⊢
  have nbB:B≤nb:=by rw [hnb0];exact hB3
  clear hnb0
  obtain ⟨W,hW⟩:∃ W,W=w6.setCell ⟨nb,1,none⟩ (.int .i64 nv):=⟨_,rfl⟩
  rw [← hW]
  have hv6:=par_below hv5 hb6
  have hEW:Exc (fun k=>k=nb) w6 W:=by rw [hW];exact exc_set (T:=fun k=>k=nb) (Exc.refl _ _) (.inr rfl) _
  have hvW:ParV B br en W vt5 (Value.slice ao5 out.length cp5) r out:=par_exc hv6 hEW (fun k hk=>by subst hk;exact ⟨nbB,hob⟩)
  have n0:W.cell? ⟨nb,0,none⟩=some (.int .i64 kw):=by rw [hW];go_simp
  have n1:W.cell? ⟨nb,1,none⟩=some (.int .i64 nv):=by rw [hW];go_simp
  have n2:W.cell? ⟨nb,2,none⟩=some (.string ⟨#[]⟩):=by rw [hW];go_simp
  have nbW:nb<W.heap.size:=by rw [hW];simpa using s6
  have hFW:Fr B br w W:=((((Fr.exc hsz hx2 (fun k hk=>.inl hk)).trans (Fr.below hv2.sz hb3)).trans (Fr.below hv3.sz (alloc_below _ _))).trans ((Fr.exc hvX.sz hx5 (fun k hk=>.inl hk)).trans (Fr.below hv5.sz hb6))).trans (Fr.exc hv6.sz hEW (fun k hk=>.inr (by subst hk;exact nbB)))
  clear hEW hv6 hW hv5 hx5 hb6 hvX hv3 q2 hbr3 hb3 hx2 hv2 x0 x1 x2 xf hob s6 z0 j0 j1 j2
  have q2:=hvW.c2
  have f2:=hvW.fz 2
  have hbrW:br<W.heap.size:=Nat.lt_of_lt_of_le hvW.lt hvW.sz
  have hnbr:¬ nb=br:=by have:=hvW.lt;omega
  have hown0:(Value.slice ao5 out.length cp5).ownBlock ≠ some br:=fun e=>by have:=(World.ownsRow.lt hvW.own _ e).1;have:=hvW.lt;omega
  refine region_acts3 (C:=Exc (NoT) _) 9 0 [1,2,3,4,5,6,7,8] [9,10,11,12] (.pointer (some ⟨br,0,none⟩)) rfl (by kernel_rfl) (by kernel_rfl) (fun _ _ _ h=>h) (Or.inl ⟨by rfl,fun _=>by go_simp⟩) (Exc.grows _ _) (Exc.refl _ _) ?_
  go_simp
  iterate 7 (apply x_st rfl rfl rfl;(focus intro u hc' hf';go_simp <;> rfl);intro K hK;go_simp;apply hK;clear hK K)
  refine x_make rfl rfl rfl (Exc.grows _ _) (Exc.refl _ _) (fun b=>.slice (some ⟨b,0,none⟩) 1 1) (fun K hK=>?_)
  apply Exists.intro
  refine ⟨fun w' hw'=>?_,fun bb w5 hw5 hb5 hbo hNb hnb=>?_⟩
  ·obtain ⟨hc',hf'⟩:=hw'.cell
   try simp only [World.size_drew] at hc' hf'
   go_simp
   rfl
  go_simp
  refine hK _ _ _ ?_
  clear hK K
  refine x_nil ?_
  have hb6:Below W.heap.size W w5:=(Below.refl _ W).drew.trans ((hw5.toBelow).mono (by simp))
  have hv6:=par_below hvW hb6
  refine ⟨Exc (fun k=>k=br∨(Value.slice ao5 out.length cp5).ownBlock=some k) w5,w5.heap.size,Exc.grows _ _,Exc.refl _ _,?_⟩
  refine x_src rfl rfl rfl (Exc.refl _ _) (.tmp 87) (.tmp 91) 159 rfl B 250 i0 _ 4 40 Tryz.underlying159 hi hz0 hz1 hz2 rfl (by decide) (.slice ao5 out.length cp5) out.length (out.flatMap rdCells) rfl (fun k hk=>.inl ⟨(World.ownsRow.lt hv6.own k hk).2,.inr hk⟩) (.slice (some ⟨bb,0,none⟩) 1 1) 1 (rdCells (⟨kw,nv,⟨#[]⟩⟩,t.pos)) rfl ?c1 (by unfold maxLen;omega) (by omega) hv6.sz ?c2 ?_
  case c1=>intro u hu;simp [rdCells] at hu;rcases hu with rfl|rfl|rfl|rfl <;> rfl
  case c2 =>
   intro w8 hw8 hb8
   refine ⟨owns_keep hb8 hv6.own,rfl,.inr ⟨_,1,rfl,?_⟩⟩
   obtain ⟨m0,m1,m2⟩:=made_cell ((hb8.block bb (made_cell hbo).2.2).trans hbo)
   intro j u hj
   match j,hj with
   | 0,hj=>simp [rdCells] at hj;subst hj;simp [Addr.add,m0]
   | 1,hj=>simp [rdCells] at hj;subst hj;simp [Addr.add,m0]
   | 2,hj=>simp [rdCells] at hj;subst hj;simp [Addr.add,m0]
   | 3,hj=>simp [rdCells] at hj;subst hj;simp [Addr.add,m0]
  intro K hK w8 w9 v9 hw8 hb8 hown9 hgr9 hw9 ho9
  obtain ⟨a9,c9,rfl⟩:=owns_shape' hown9
  go_simp
  refine hK _ _ _ ?_
  clear hK K
  iterate 2 (apply x_sT rfl rfl rfl;(focus intro u hc' hf';(try simp only [World.size_drew] at hc' hf');go_simp <;> rfl);intro K hK;go_simp;apply hK;clear hK K)
  refine x_do rfl rfl rfl (Exc.grows _ _) hw9 (fun K hK=>?_)
  intro w10 hw10 hb10
  have hv8:=par_below hv6 hb8
  have hbr8:br<w8.heap.size:=Nat.lt_of_lt_of_le hv8.lt hv8.sz
  have hE9:Exc (fun k=>(Value.slice ao5 out.length cp5).ownBlock=some k) w8 w9:=(Exc.refl _ _).grown hgr9 (fun k hk=>.inr hk)
  have k9:=cell_keep hb10 ((hE9.cell.1 br 2 hbr8 hown0).trans hv8.c2)
  have f9:w10.frozen? ⟨br,2,none⟩=false:=(hb10.frozen (p:=⟨br,2,none⟩) (by have:=hE9.size;simp;omega)).trans ((hE9.cell.2 br 2 hbr8 hown0).trans (hv8.fz 2))
  have s9:=cell_lt k9
  have hPP:=par_push (⟨kw,nv,⟨#[]⟩⟩,t.pos) hv8 (grown_more hgr9 hb10) (owns_keep hb10 hown9)
  have hbr5:br<w5.heap.size:=Nat.lt_of_lt_of_le hv6.lt hv6.sz
  refine ⟨w10.setCell ⟨br,2,none⟩ (.slice a9 (out.length+1) c9),?_,⟨exc_set hw10 (.inr (.inl rfl)) _,by simp,fun j hj _ _=>by rw [Below.heap_setCell _ _ _ _ (by show ¬ _=_;intro hh;simp only at hh;omega)]⟩,?_⟩
  ·go_simp
  go_simp
  refine hK _ _ _ ?_
  clear hK K
  refine x_nil ?_
  have hF6:=(hFW.trans (Fr.below hvW.sz (hb6.trans (hb8.mono hb6.size)))).trans hPP.2
  go_wp2
  exact bodyPost_ret (v:=.nilIface) (by simp [results,Tryz.results239,go_sem]) rfl (by rw [HE.out];exact ⟨⟨_,_,hPP.1⟩,hF6,by simp <;> omega,by simp <;> omega,rfl⟩)
end Go.Proofs.YtbljmfcifljkaaaGreatDoor
/-
  The program's parser: part, row and term at all tokens. Own work.
-/
namespace Go.Proofs.YtbljmfcifljkaaaGreatDoor
open Go.RowKit
abbrev PartAt (B br:Nat) (en:Int) (f:Nat):Prop:=∀ ts out w,ts.length≤f → out.length+ts.length≤40000 → ParAt B br en w ts out → Calls Tryz.prog 239 #[.pointer (some ⟨br,0,none⟩)] w (PostP B br en w ts out (pPart f ts out))
abbrev RowAt (B br:Nat) (en:Int) (f:Nat):Prop:=∀ ts out w,ts.length≤f → out.length+ts.length≤40000 → ParAt B br en w ts out → Calls Tryz.prog 180 #[.pointer (some ⟨br,0,none⟩)] w (PostP B br en w ts out (pRow f ts out))
abbrev TermAt (B br:Nat) (en:Int) (f:Nat):Prop:=∀ ts out w,ts.length≤f → out.length+ts.length≤40000 → ParAt B br en w ts out → Calls Tryz.prog 112 #[.pointer (some ⟨br,0,none⟩)] w (PostP B br en w ts out (pTerm f ts out))
theorem part_any (B br:Nat) (en:Int) (f:Nat) (hT:∀ g,g+1=f → TermAt B br en g):PartAt B br en f:=by
 intro ts out w hts hsum h
 cases hy:isSymS ts ⟨#[40]⟩ with
 | true =>
  cases ts with
  | nil=>simp [isSymS] at hy
  | cons t r =>
   obtain ⟨g,rfl⟩:∃ g,f=g+1:=⟨f - 1,by simp at hts;omega⟩
   exact part_paren B br en g (hT g rfl) t r out w (by simpa using hts) (by simpa using hsum) h hy
 | false =>
  by_cases hk:∃ t r,ts=t :: r∧t.kind=1
  ·obtain ⟨t,r,rfl,hk⟩:=hk
   obtain ⟨g,rfl⟩:∃ g,f=g+1:=⟨f - 1,by simp at hts;omega⟩
   by_cases hv:kindOfW t.text=1∨kindOfW t.text=7∨kindOfW t.text=13
   ·by_cases hn:∃ n r2,r=n :: r2∧n.kind=2
    ·obtain ⟨n,r2,rfl,hn⟩:=hn
     exact part_val B br en g t n r2 out w h (by simpa using hsum) hk hv hn
    ·exact part_noval B br en g t r out w h (by simpa using hsum) hk hv (fun n r2 e hh=>hn ⟨n,r2,e,hh⟩)
   ·by_cases h17:kindOfW t.text=17
    ·exact part_name B br en g t r out w h (by simpa using hsum) hk h17
    ·exact part_bare B br en g t r out w h (by simpa using hsum) hk hv h17
  ·exact part_noword B br en f ts out w hts h hy (fun t r e hh=>hk ⟨t,r,e,hh⟩)
theorem pars_any (B br:Nat) (en:Int):∀ f:Nat,∀ g,g≤f → PartAt B br en g∧RowAt B br en g∧TermAt B br en g
 | f=>by
  intro g hg
  have hp:∀ k,k≤g → PartAt B br en k:=fun k hk=>part_any B br en k (fun j hj=>(pars_any B br en j j (Nat.le_refl _)).2.2)
  have hr:∀ k,k≤g → RowAt B br en k:=fun k hk ts out w hts hsum h=>row_at B br en k (fun j hj=>hp j (by omega)) ts out w hts hsum h
  exact ⟨hp g (Nat.le_refl _),hr g (Nat.le_refl _),fun ts out w hts hsum h=>term_at B br en g hr ts out w hts hsum h⟩
 termination_by f=>f
 decreasing_by omega
theorem term_any (B br:Nat) (en:Int) (f:Nat):TermAt B br en f:=(pars_any B br en f f (Nat.le_refl _)).2.2
end Go.Proofs.YtbljmfcifljkaaaGreatDoor

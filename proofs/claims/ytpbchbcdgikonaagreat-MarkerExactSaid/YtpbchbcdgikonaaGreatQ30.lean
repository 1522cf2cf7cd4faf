/- Lean texts of the claim. -/
import Derived.Test.YtpbchbcdgikonaaGreatQ29
import Derived.Sort.MapsRangeIn
import Derived.StringKeys
namespace Go.Proofs.YtpbchbcdgikonaaGreat
set_option linter.unusedVariables false
set_option linter.unusedSimpArgs false
set_option maxRecDepth 100000
set_option maxHeartbeats 4000000
open Go.RowKit
theorem ch3 {w:World} {g:Nat} {t:TypeId} {a b c:Value} (h:Bb w g t #[a,b,c]):w.cell? ⟨g,0,none⟩=some a/\w.cell? ⟨g,1,none⟩=some b/\w.cell? ⟨g,2,none⟩=some c :=
 ⟨(h.cell 0).trans rfl,(h.cell 1).trans rfl,(h.cell 2).trans rfl⟩
theorem Ali (A:Option Addr) (cap:Nat) (x:ByteArray) (w:World):Calls Tryz.prog 200 #[.slice A 0 cap,.string x] w fun e w'=>e=.returned (.int .i64 (-1))/\w=w':=by
 go_enter Tryz.func200,Tryz.ntmps200;go_wp2_with fail;go_loopw [8] (fun i wr=>i=.int .i64 0/\wr=w) (fun _ _=>0)
 case atStart=>exact⟨rfl,rfl⟩
 case round =>
  obtain⟨rfl,rfl⟩:=hrel;go_wp2_with fail;go_ret;exact⟨rfl,rfl⟩
theorem Al7 (A:Option Addr) (cap:Nat) (x:ByteArray) (w:World):Calls Tryz.prog 164 #[.slice A 0 cap,.string x] w fun e w'=>e=.returned (.bool false)/\w=w':=by
 go_enter Tryz.func164,Tryz.ntmps164
 go_wp2_with (go_at_call 200;refine(Ali A cap x _).mono ?_;rintro e w1 ⟨rfl,rfl⟩)
 go_ret;exact⟨rfl,rfl⟩
theorem yh (g:Nat) (w:World):Calls Tryz.prog 166 #[.agg #[.slice (some ⟨g,0,none⟩) 1 1,.int .i64 0,.slice none 0 0],.int .i64 0] w fun e w'=>e=.returned (.bool true)/\Below w.heap.size w w':=by
 go_enter Tryz.func166,Tryz.ntmps166;go_upto_region 1 with fail;refine Ar (fun X=>Below w.heap.size w X/\Bb X w.heap.size 234 #[.slice (some ⟨g,0,none⟩) 1 1,.int .i64 0,.slice none 0 0]) ⟨An (Below.refl _ _) _,Bb.new _ _ _⟩ ?_
 rintro X ⟨hbX,hP⟩;obtain⟨p0,p1,p2⟩:=ch3 hP;go_wp2_with fail;go_ret;exact⟨rfl,hbX⟩
theorem Ug (g:Nat) (s:ByteArray) (w:World) (hs:s.size<=9223372036854775807) (hc:w.cell? ⟨g,0,none⟩=some (.string s)) :
 Calls Tryz.prog 135 #[.agg #[.slice (some ⟨g,0,none⟩) 1 1,.int .i64 0,.slice none 0 0]] w fun e w'=>e=.returned (.int .i64 (if szB s then 0 else 1))/\Below w.heap.size w w':=by
 obtain⟨b,hb⟩:∃b,szB s=b:=⟨_,rfl⟩
 have HB:=Lib.hid hb;rw[hb];clear hb;go_enter Tryz.func135,Tryz.ntmps135;go_upto_region 1 with fail;refine Ar (fun X=>Below w.heap.size w X/\Bb X w.heap.size 234 #[.slice (some ⟨g,0,none⟩) 1 1,.int .i64 0,.slice none 0 0]) ⟨An (Below.refl _ _) _,Bb.new _ _ _⟩ ?_
 rintro X ⟨hbX,hP⟩;obtain⟨p0,p1,p2⟩:=ch3 hP;have hcX:=Aq hbX hc;clear hc;go_upto_region 6 with fail;cases b with
 | false =>
   go_loopw [4,28] (fun _ i wr=>i=.int .i64 0/\X=wr) (fun _ _ _=>0)
   case atStart=>exact⟨rfl,rfl⟩
   case round =>
    obtain⟨rfl,rfl⟩:=hrel
    go_wp2_with (go_at_call 161;refine(Yg s _ hs).mono ?_;rintro e w1 ⟨rfl,rfl⟩;rw[HB.out])
    go_ret;exact⟨rfl,hbX⟩
 | true =>
   go_loopw [4,28] (fun _ i wr=>∃k:Nat,k<=1/\i=.int .i64 k/\X=wr) (fun _ i _=>1-(intOf i).toNat)
   case atStart=>exact⟨0,by omega,rfl,rfl⟩
   case round =>
    obtain⟨k,hk,rfl,rfl⟩:=hrel;rcases(show k=0\/k=1 by omega) with rfl|rfl
    ·go_wp2_with (go_at_call 161;refine(Yg s _ hs).mono ?_;rintro e w1 ⟨rfl,rfl⟩;rw[HB.out])
     exact⟨⟨1,by omega,by go_num,by first|rfl|trivial⟩,by simp[intOf]⟩
    ·go_upto_region 12 with fail
     go_loopw [6,39] (fun _ i wr=>i=.int .i64 0/\X=wr) (fun _ _ _=>0)
     case atStart=>exact⟨rfl,rfl⟩
     case round =>
      obtain⟨rfl,rfl⟩:=hrel;go_upto_region 18 with fail;go_loopw [7,8,69] (fun _ _ i wr=>∃k:Nat,k<=1/\i=.int .i64 k/\Hid (X=wr)) (fun _ _ i _=>1-(intOf i).toNat)
      case atStart=>exact⟨0,by omega,rfl,Lib.hid rfl⟩
      case round =>
       obtain⟨k,hk,rfl,hx⟩:=hrel;obtain rfl:=hx.out;rcases(show k=0\/k=1 by omega) with rfl|rfl
       ·go_wp2_with (go_at_call 164;refine(Al7 _ _ s _).mono ?_;rintro e w1 ⟨rfl,rfl⟩)
        exact⟨⟨_,_,_,_,_,_,_,_,_,_,_,_,_,_,_,⟨1,by omega,by go_num,Lib.hid trivial⟩,rfl⟩,by simp[intOf]⟩
       ·go_upto_region 24 with fail
        go_loopw [9,10,84] (fun _ _ i wr=>i=.int .i64 0/\X=wr) (fun _ _ _ _=>0)
        case atStart=>exact⟨rfl,rfl⟩
        case round =>
         obtain⟨rfl,rfl⟩:=hrel
         go_wp2_with (go_at_call 166;refine(yh g _).mono ?_;rintro e w1 ⟨rfl,hb1⟩)
         go_ret;exact⟨rfl,Ao hbX hb1⟩
theorem Si (s:ByteArray) (w:World) (hs:s.size<=9223372036854775807):Calls Tryz.prog 104 #[.string s] w fun e w'=>e=.returned (.bool (szB s))/\Below w.heap.size w w':=by
 obtain⟨b,hb⟩:∃b,szB s=b:=⟨_,rfl⟩
 have HB:=Lib.hid hb;rw[hb];clear hb;go_enter Tryz.func104,Tryz.ntmps104;cases b with
 | false =>
   go_wp2_with (go_at_call 135;refine(Ug w.heap.size s _ hs (((Bb.new _ _ _).cell 0).trans rfl)).mono ?_;rintro e w1 ⟨rfl,hb1⟩;rw[HB.out];simp only[Bool.false_eq_true,if_false])
   go_ret;exact⟨rfl,Ao (An (Below.refl _ _) _) hb1⟩
 | true =>
   go_wp2_with (go_at_call 135;refine(Ug w.heap.size s _ hs (((Bb.new _ _ _).cell 0).trans rfl)).mono ?_;rintro e w1 ⟨rfl,hb1⟩;rw[HB.out];simp only[if_true])
   go_ret;exact⟨rfl,Ao (An (Below.refl _ _) _) hb1⟩
section
open Go.RowKit Go.Maps
def okT (s:ByteArray):Prop:=s.size<=maxLen
def klT (s:ByteArray):Lit:=.string s.data.toList
theorem Ake:KeyRep Tryz.prog 9 Value.string okT klT where
 law:=string_keyed Tryz.underlying9
 of x hx:=WideMaps.keyOf_string_mk Tryz.underlying9 hx
 inv v l h:=by
  obtain⟨s,rfl⟩:=Maps.keyOf_string_inv Tryz.underlying9 h;refine⟨s,rfl,?_⟩;unfold okT;simp[keyOf,mapKey,Tryz.underlying9] at h;exact h.1
 inj x y h:=by injection h
theorem Afr:∀w,(zeroValue 4).run Tryz.prog w=.ok (.bool false) w:=fun _=>by kernel_rfl
theorem Aco {w0 w w':World} {b:Nat} (hb:Below w0.heap.size w0 w) (hg:w.grownBy w' (some b)) (h:w0.heap.size<=b):Below w0.heap.size w0 w' :=
 Below.grown hb hg hb.size (fun k hk=>by cases hk;exact h)
theorem Ww {a b:ByteArray}:H7 a b=true↔a=b:=by
 unfold H7;rw[beq_iff_eq];exact⟨fun h=>by rw[ByteArray.toList_eq,ByteArray.toList_eq] at h;exact WideShapes.bytes_inj h,fun h=>by rw[h]⟩
theorem gk {l:List ByteArray} {x:ByteArray} {k:Nat} (hk:k<=l.length):Bq (fun j=>H7 (gb l j) x) k=true↔x∈l.take k:=by
 rw[Bq.iff,List.mem_take_iff_getElem];constructor
 ·rintro⟨i,hi,h⟩
  have:=Ww.1 h;refine⟨i,by omega,?_⟩
  rw[<-this];simp[gb,List.getD,show i<l.length by omega]
 ·rintro⟨i,hi,h⟩
  refine⟨i,by omega,?_⟩
  rw[Ww,<-h];simp[gb,List.getD,show i<l.length by omega]
theorem C5.getB {P:Program} {α:Type} {k e t:TypeId} {key:α->Value} {ok:α->Prop} {kl:α->Lit} {w:World} {b n:Nat} {S:List α} (K:KeyRep P k key ok kl) (ht:P.underlying t=some (.map k e)) (he:P.underlying e=some .bool) (hz:(zeroValue e).run P w=.ok (.bool false) w) (h:C5 P k e ok kl w b n S) {x:α} (hx:ok x) {c:Bool} (hc:c=true↔x∈S) :
 (Instr.lookup t (.map (some b)) (key x) false).run P w=.ok (.bool c) w:=by
 obtain⟨D,h1,h2,h3⟩:=h;obtain⟨v,ps,hrun,hR⟩:=h1.lookup K.law ht hz (plainElem_bool he false) (K.of x hx);obtain⟨c',rfl,hc'⟩:=Ei he hR;injection hc' with hc' _
 by_cases hxS:x∈S
 ·rw[(h3 x hx).1 hxS] at hc'
  injection hc' with hc';injection hc' with hc'
  rw[hrun,<-hc',hc.2 hxS]
 ·rw[Maps.atKey_of_not_has ((h3 x hx).2 hxS)] at hc'
  injection hc' with hc';injection hc' with hc'
  have e1:c=false:=by
   cases c with
   | false=>rfl
   | true=>exact absurd (hc.1 rfl) hxS
  rw[hrun,<-hc',e1]
structure SmS (s:StyleP):Prop where
 sz:s.sz.length<=4
 mu:s.mu.length<=4
 pc:s.pc.length<=4
 us:s.us.length<=4
 se:s.se.length<=6
 no:s.no<=8
theorem st7 {w:World} {g:Nat} {t:TypeId} {a b c d e f h:Value} (H:Bb w g t #[a,b,c,d,e,f,h]):w.cell? ⟨g,0,none⟩=some a/\w.cell? ⟨g,1,none⟩=some b/\w.cell? ⟨g,2,none⟩=some c/\w.cell? ⟨g,3,none⟩=some d/\w.cell? ⟨g,4,none⟩=some e/\w.cell? ⟨g,5,none⟩=some f/\w.cell? ⟨g,6,none⟩=some h :=
 ⟨(H.cell 0).trans rfl,(H.cell 1).trans rfl,(H.cell 2).trans rfl,(H.cell 3).trans rfl,(H.cell 4).trans rfl,(H.cell 5).trans rfl,(H.cell 6).trans rfl⟩
theorem Al4 (vs:Array Value) (s:StyleP) (w:World) (hv:StV w vs s) (h:Dg s.nm=false):Calls Tryz.prog 64 #[.agg vs] w fun e w'=>e=.returned (.int .i64 1)/\Below w.heap.size w w':=by
 have HN:=Lib.hid h;clear h;obtain⟨A1,c1,A2,c2,A3,c3,A4,c4,A5,c5,A6,c6,rfl,⟨v1,v2,v3⟩,⟨v4,v5,v6⟩,⟨v7,v8,v9⟩,⟨v10,v11,v12⟩,⟨v13,v14,v15⟩,v16,v17⟩:=hv;go_enter Tryz.func64,Tryz.ntmps64;go_upto_region 1 with fail;refine Ar (fun X=>Below w.heap.size w X/\Bb X w.heap.size 29 #[.string s.nm,.slice A1 s.sz.length c1,.slice A2 s.mu.length c2,.slice A3 s.pc.length c3,.slice A4 s.us.length c4,.slice A5 s.se.length c5,.slice A6 s.no c6]) ⟨An (Below.refl _ _) _,Bb.new _ _ _⟩ ?_
 rintro X ⟨hbX,hP⟩;obtain⟨p0,p1,p2,p3,p4,p5,p6⟩:=st7 hP
 go_wp2_with (go_at_call 103;refine(Fh s.nm _).mono ?_;rintro e w1 ⟨rfl,hb1⟩;rw[HN.out])
 go_ret;exact⟨rfl,Ao hbX hb1⟩
theorem Al3 (vs:Array Value) (s:StyleP) (w:World) (hv:StV w vs s) (h:Dg s.nm=true) (h0:s.sz.length=0):Calls Tryz.prog 64 #[.agg vs] w fun e w'=>e=.returned (.int .i64 1)/\Below w.heap.size w w':=by
 have HN:=Lib.hid h;have H0:=Lib.hid h0;clear h h0;obtain⟨A1,c1,A2,c2,A3,c3,A4,c4,A5,c5,A6,c6,rfl,⟨v1,v2,v3⟩,⟨v4,v5,v6⟩,⟨v7,v8,v9⟩,⟨v10,v11,v12⟩,⟨v13,v14,v15⟩,v16,v17⟩:=hv;go_enter Tryz.func64,Tryz.ntmps64;go_upto_region 1 with fail;refine Ar (fun X=>Below w.heap.size w X/\Bb X w.heap.size 29 #[.string s.nm,.slice A1 s.sz.length c1,.slice A2 s.mu.length c2,.slice A3 s.pc.length c3,.slice A4 s.us.length c4,.slice A5 s.se.length c5,.slice A6 s.no c6]) ⟨An (Below.refl _ _) _,Bb.new _ _ _⟩ ?_
 rintro X ⟨hbX,hP⟩;obtain⟨p0,p1,p2,p3,p4,p5,p6⟩:=st7 hP;rw[H0.out] at p1
 go_wp2_with (go_at_call 103;refine(Fh s.nm _).mono ?_;rintro e w1 ⟨rfl,hb1⟩;rw[HN.out];have q1:=Aq hb1 p1)
 go_ret;exact⟨rfl,Ao hbX hb1⟩
theorem Al2 (vs:Array Value) (s:StyleP) (w:World) (hsm:SmS s) (hv:StV w vs s) (h:Dg s.nm=true) (h0:s.sz.length≠0):Calls Tryz.prog 64 #[.agg vs] w fun e w'=>e=.returned (.int .i64 (Ct s))/\Below w.heap.size w w':=by
 have HE:=Lib.hid (show Ct s=if Bq (fun i=>!szB (gb s.sz i)) s.sz.length then 1
  else if s.mu.length≠s.sz.length\/Bq (fun i=>(0:Int) == gi s.mu i) s.mu.length=false then 1
  else if Bq (fun i=>Bq (fun j=>H7 (gb s.sz j) (gb s.sz i)) i) s.sz.length then 7
  else if Bq (fun i=>decide (gi s.mu i < -100) || decide (100<gi s.mu i)) s.mu.length then 3 else 0 by
  obtain⟨z1,z2,z3,z4,z5,z6⟩:=hsm;unfold Ct;rw[if_neg (by rw[h];simpa using h0),if_neg (show ¬(12<s.sz.length\/12<s.pc.length\/12<s.us.length) by omega),if_neg (show ¬(24<s.se.length\/16<s.no) by omega)])
 have HN:=Lib.hid h;obtain⟨z1,z2,z3,z4,z5,z6⟩:=hsm;have hmm:=@run_makeMap Tryz.prog;clear h;obtain⟨A1,c1,A2,c2,A3,c3,A4,c4,A5,c5,A6,c6,rfl,⟨v1,v2,v3⟩,⟨v4,v5,v6⟩,⟨v7,v8,v9⟩,⟨v10,v11,v12⟩,⟨v13,v14,v15⟩,v16,v17⟩:=hv;go_enter Tryz.func64,Tryz.ntmps64;go_upto_region 1 with fail;refine Ar (fun X=>Below w.heap.size w X/\Bb X w.heap.size 29 #[.string s.nm,.slice A1 s.sz.length c1,.slice A2 s.mu.length c2,.slice A3 s.pc.length c3,.slice A4 s.us.length c4,.slice A5 s.se.length c5,.slice A6 s.no c6]) ⟨An (Below.refl _ _) _,Bb.new _ _ _⟩ ?_
 rintro X ⟨hbX,hP⟩;obtain⟨p0,p1,p2,p3,p4,p5,p6⟩:=st7 hP;obtain⟨n1,hn1⟩:∃n,s.sz.length=n:=⟨_,rfl⟩
 obtain⟨n2,hn2⟩:∃n,s.mu.length=n:=⟨_,rfl⟩
 obtain⟨n3,hn3⟩:∃n,s.pc.length=n:=⟨_,rfl⟩
 obtain⟨n4,hn4⟩:∃n,s.us.length=n:=⟨_,rfl⟩
 obtain⟨n5,hn5⟩:∃n,s.se.length=n:=⟨_,rfl⟩
 obtain⟨n6,hn6⟩:∃n,s.no=n:=⟨_,rfl⟩
 rw[hn1] at h0 HE p1 v1 v3 z1 hP;rw[hn2] at HE p2 v4 v6 z2 hP;rw[hn3] at p3 v7 z3 hP;rw[hn4] at p4 v10 z4 hP;rw[hn5] at p5 v13 z5 hP;rw[hn6] at p6 v16 z6 hP;clear hn1 hn2 hn3 hn4 hn5 hn6 v9 v12 v15;have ne0:((n1:Int) == 0)=false:=by simpa using h0
 go_upto_region 4 with (go_at_call 103;refine(Fh s.nm _).mono ?_;rintro e w1 ⟨rfl,hb1⟩;rw[HN.out];have q1:=Aq hb1 p1)
 have hP1:=hP.keep hb1;have hS1:=v3.keep (Ao hbX hb1);have hI1:=v6.keep (Ao hbX hb1);clear p0 p1 p2 p3 p4 p5 p6 q1 hP ne0;go_loopw [4,23] (fun _ c wr=>∃k:Nat,k<=n1/\c=.int .i64 k/\Hid (Bq (fun i=>!szB (gb s.sz i)) k=false)/\Below w1.heap.size w1 wr) (fun _ c _=>n1-(intOf c).toNat)
 case atStart=>exact⟨0,Nat.zero_le _,rfl,Lib.hid (Bq.zero _),Below.refl _ _⟩
 case round =>
  obtain⟨k,hk,rfl,hz,hb⟩:=hrel;by_cases hlt:k<n1
  ·obtain⟨b0,off,rfl,hc,hcs⟩:=(hS1.keep hb).at_ hlt
   have B1:(k:Int)<(n1:Int):=by omega
   obtain⟨x,hx⟩:∃x,gb s.sz k=x:=⟨_,rfl⟩
   rw[hx] at hc hcs;cases hbb:szB x with
   | false =>
     have HR:=Lib.hid (show Ct s=1 by rw[HE.out,if_pos (Bq.yes (f:=fun i=>!szB (gb s.sz i)) hlt (by rw[hx,hbb];rfl))])
     have HB:=Lib.hid hbb;clear hx hbb
     go_wp2_with (go_at_call 104;refine(Si x _ hcs).mono ?_;rintro e w2 ⟨rfl,hb2⟩;rw[HB.out])
     go_ret;exact⟨by rw[HR.out];rfl,Ao hbX (Ao hb1 (Ao hb hb2))⟩
   | true =>
     have HP:=Bq.succ (f:=fun i=>!szB (gb s.sz i)) hz.out (by rw[hx,hbb];rfl)
     have HB:=Lib.hid hbb;clear hx hbb
     go_wp2_with (go_at_call 104;refine(Si x _ hcs).mono ?_;rintro e w2 ⟨rfl,hb2⟩;rw[HB.out])
     exact⟨⟨k+1,by omega,by go_num,Lib.hid HP,Ao hb hb2⟩,by simp[intOf];omega⟩
  ·obtain rfl:n1=k:=by omega
   have HE2:=Lib.hid (show Ct s=if n2≠n1\/Bq (fun i=>(0:Int) == gi s.mu i) n2=false then 1
    else if Bq (fun i=>Bq (fun j=>H7 (gb s.sz j) (gb s.sz i)) i) n1 then 7
    else if Bq (fun i=>decide (gi s.mu i < -100) || decide (100<gi s.mu i)) n2 then 3 else 0 by rw[HE.out,if_neg (by rw[hz.out];simp)])
   have hbW:=Ao hbX (Ao hb1 hb);have hP2:=hP1.keep hb;have hS2:=hS1.keep hb;have hI2:=hI1.keep hb;clear hP1 hS1 hI1 hb v3 v6;obtain⟨p0,p1,p2,p3,p4,p5,p6⟩:=st7 hP2;by_cases hne:n2=n1
   ·obtain rfl:=hne
    obtain⟨cb,hcb⟩:∃b,Bq (fun i=>(0:Int) == gi s.mu i) n2=b:=⟨_,rfl⟩
    have HCB:=Lib.hid hcb;rw[hcb] at HE2;clear hcb;cases cb with
    | false =>
      have HR:=Lib.hid (show Ct s=1 by rw[HE2.out];simp)
      go_wp2_with (go_at_call 105;refine(Kw _ _ _ _ _ _ (by omega) hI2).mono ?_;rintro e w2 ⟨rfl,hb2⟩;rw[HCB.out])
      go_ret;exact⟨by rw[HR.out];rfl,Ao hbW hb2⟩
    | true =>
      have HE3:=Lib.hid (show Ct s=if Bq (fun i=>Bq (fun j=>H7 (gb s.sz j) (gb s.sz i)) i) n2 then 7
       else if Bq (fun i=>decide (gi s.mu i < -100) || decide (100<gi s.mu i)) n2 then 3 else 0 by rw[HE2.out];simp)
      go_upto_region 12 with (go_at_call 105;refine(Kw _ _ _ _ _ _ (by omega) hI2).mono ?_;rintro e w2 ⟨rfl,hb2⟩;rw[HCB.out];obtain⟨q0,q1,q2,q3,q4,q5,q6⟩:=st7 (hP2.keep hb2))
      have hbV:=Ao hbW hb2;have hP3:=hP2.keep hb2;have hS3:=hS2.keep hb2;have hI3:=hI2.keep hb2;clear p0 p1 p2 p3 p4 p5 p6 hP2 hS2 hI2 hb2;obtain⟨BM,hBM⟩:∃BM,BM=w2.heap.size:=⟨_,rfl⟩
      have hm0:C5 Tryz.prog 9 4 okT klT (w2.alloc (.map #[] 0)) BM 0 []:=by rw[hBM];exact C5.made w2
      have hBM':w2.heap.size<=BM:=by omega
      have HB0:=Lib.hid (An (Below.refl w2.heap.size w2) (.map #[] 0));have HBM:=Lib.hid hBM;have HM0:=Lib.hid hm0;have HP3:=Lib.hid (st7 (hP3.keep HB0.out));clear hm0 hBM;rw[<-HBM.out];clear HBM;obtain⟨q0,q1,q2,q3,q4,q5,q6⟩:=HP3.out;go_upto_region 13 with fail;clear q0 q1 q2 q3 q4 q5 q6 HP3;go_loopw [7,48] (fun _ c wr=>∃k:Nat,k<=n2/\c=.int .i64 k/\Hid (Bq (fun i=>Bq (fun j=>H7 (gb s.sz j) (gb s.sz i)) i) k=false)/\C5 Tryz.prog 9 4 okT klT wr BM k (s.sz.take k)/\Below w2.heap.size w2 wr) (fun _ c _=>n2-(intOf c).toNat)
      case atStart=>exact⟨0,Nat.zero_le _,rfl,Lib.hid (Bq.zero _),HM0.out,HB0.out⟩
      case round =>
       clear HM0 HB0;obtain⟨k,hk,rfl,hz,hm,hb⟩:=hrel;by_cases hlt:k<n2
       ·obtain⟨b0,off,rfl,hc,hcs⟩:=(hS3.keep hb).at_ hlt
        have B1:(k:Int)<(n2:Int):=by omega
        have hln:s.sz.length=n2:=hS3.1;have HTK:=Lib.hid (show s.sz.take (k+1)=s.sz.take k++[gb s.sz k] by rw[List.take_succ_eq_append_getElem (by omega)];simp[gb,List.getD,show k<s.sz.length by omega])
        have HST:=Lib.hid (gk (l:=s.sz) (x:=gb s.sz k) (k:=k) (by omega))
        obtain⟨x,hx⟩:∃x,gb s.sz k=x:=⟨_,rfl⟩
        rw[hx] at hc hcs HTK HST;have HX:=Lib.hid hx;clear hx hln;have hok:okT x:=hcs;have hg:=C5.getB (t:=199) Ake Tryz.underlying199 Tryz.underlying4 (Afr _) hm hok HST.out;obtain⟨bb,hbb⟩:∃bb,Bq (fun j=>H7 (gb s.sz j) x) k=bb:=⟨_,rfl⟩
        rw[hbb] at hg;have HBB:=Lib.hid hbb;clear hbb;cases bb with
        | true =>
          have HR:=Lib.hid (show Ct s=7 by rw[HE3.out,if_pos (Bq.yes (f:=fun i=>Bq (fun j=>H7 (gb s.sz j) (gb s.sz i)) i) hlt (by rw[HX.out];exact HBB.out))])
          go_wp2_with fail;go_ret;exact⟨by rw[HR.out];rfl,Ao hbV hb⟩
        | false =>
          have HP:=Bq.succ (f:=fun i=>Bq (fun j=>H7 (gb s.sz j) (gb s.sz i)) i) hz.out (by rw[HX.out];exact HBB.out)
          have hkm:k<maxLen:=by unfold maxLen;omega
          go_wp2_with (at_mapUpdate;refine Du rfl _ _ _ 199 rfl Ake Tryz.underlying199 Tryz.underlying4 rfl hm hkm x hok rfl rfl ?_;intro w5 ho5 hg5)
          exact⟨⟨k+1,by omega,by go_num,Lib.hid HP,by rw[HTK.out];exact ho5,Aco hb hg5 hBM'⟩,by simp[intOf];omega⟩
       ·obtain rfl:n2=k:=by omega
        have HE4:=Lib.hid (show Ct s=if Bq (fun i=>decide (gi s.mu i < -100) || decide (100<gi s.mu i)) n2 then 3 else 0 by rw[HE3.out,if_neg (by rw[hz.out];simp)])
        have hbU:=Ao hbV hb;obtain⟨q0,q1,q2,q3,q4,q5,q6⟩:=st7 (hP3.keep hb);have hI4:=hI3.keep hb;clear hm hz hI3 hS3 hP3 HE HE2 HE3;go_upto_region 24 with fail;clear q0 q1 q2 q3 q4 q5 q6;obtain⟨wx,hwx⟩:∃wx:World,wr=wx:=⟨_,rfl⟩
        rw[hwx] at hbU hI4 ⊢;clear hwx hb;go_loopw [9,87] (fun _ c wy=>∃k:Nat,k<=n2/\c=.int .i64 k/\Hid (Bq (fun i=>decide (gi s.mu i < -100) || decide (100<gi s.mu i)) k=false)/\Hid (wx=wy)) (fun _ c _=>n2-(intOf c).toNat)
        case atStart=>exact⟨0,Nat.zero_le _,rfl,Lib.hid (Bq.zero _),Lib.hid rfl⟩
        case round =>
         obtain⟨k,hk,rfl,hz4,hxx⟩:=hrel;obtain rfl:=hxx.out;by_cases hlt:k<n2
         ·obtain⟨b9,off9,rfl,hc9⟩:=hI4.at_ hlt
          have B1:(k:Int)<(n2:Int):=by omega
          obtain⟨x,hx⟩:∃x,gi s.mu k=x:=⟨_,rfl⟩
          rw[hx] at hc9;by_cases h0:x < -100
          ·have HR:=Lib.hid (show Ct s=3 by rw[HE4.out,if_pos (Bq.yes (f:=fun i=>decide (gi s.mu i < -100) || decide (100<gi s.mu i)) hlt (by rw[hx];simp;omega))])
           clear hx;go_wp2_with fail;all_goals go_ret
           all_goals exact⟨by rw[HR.out];rfl,hbU⟩
          ·by_cases h5:100<x
           ·have HR:=Lib.hid (show Ct s=3 by rw[HE4.out,if_pos (Bq.yes (f:=fun i=>decide (gi s.mu i < -100) || decide (100<gi s.mu i)) hlt (by rw[hx];simp;omega))])
            clear hx;go_wp2_with fail;all_goals go_ret
            all_goals exact⟨by rw[HR.out];rfl,hbU⟩
           ·have HP:=Bq.succ (f:=fun i=>decide (gi s.mu i < -100) || decide (100<gi s.mu i)) hz4.out (by rw[hx];simp;omega)
            clear hx;go_wp2_with fail;all_goals exact⟨⟨k+1,by omega,by go_num,Lib.hid HP,by first|exact Lib.hid rfl|exact Lib.hid trivial⟩,by simp[intOf];omega⟩
         ·obtain rfl:n2=k:=by omega
          have HR:=Lib.hid (show Ct s=0 by rw[HE4.out,if_neg (by rw[hz4.out];simp)])
          go_wp2_with fail;go_ret;exact⟨by rw[HR.out];rfl,hbU⟩
   ·have hn:((n2:Int) != (n1:Int))=true:=by rw[bne_iff_ne];omega
    have HR:=Lib.hid (show Ct s=1 by rw[HE2.out,if_pos (Or.inl hne)])
    clear hne;go_wp2_with fail;all_goals go_ret
    all_goals exact⟨by rw[HR.out];rfl,hbW⟩
theorem Sa (vs:Array Value) (s:StyleP) (w:World) (hsm:SmS s) (hv:StV w vs s):Calls Tryz.prog 64 #[.agg vs] w fun e w'=>e=.returned (.int .i64 (Ct s))/\Below w.heap.size w w':=by
 cases hn:Dg s.nm with
 | false =>
   rw[show Ct s=1 by unfold Ct;rw[if_pos (Or.inl hn)]]
   exact Al4 vs s w hv hn
 | true =>
   by_cases h0:s.sz.length=0
   ·rw[show Ct s=1 by unfold Ct;rw[if_pos (Or.inr h0)]]
    exact Al3 vs s w hv hn h0
   ·exact Al2 vs s w hsm hv hn h0
theorem E8 (vs:Array Value) (s:StyleP) (x y:Int) (w:World) (hsm:SmS s) (hv:StV w vs s):Calls Tryz.prog 66 #[.agg vs,.int .i64 x,.int .i64 y] w fun e w'=>e=.returned (.bool (Yh s.pc x y))/\Below w.heap.size w w':=by
 have HR:=Lib.hid (show Yh s.pc x y=(decide (0<=x)&&decide (x<s.pc.length)&&decide (0<=y)&&decide (y<(pce s.pc x.toNat).ed.length)) from rfl)
 obtain⟨A1,c1,A2,c2,A3,c3,A4,c4,A5,c5,A6,c6,rfl,⟨v1,v2,v3⟩,⟨v4,v5,v6⟩,⟨v7,v8,v9⟩,⟨v10,v11,v12⟩,⟨v13,v14,v15⟩,v16,v17⟩:=hv;have z3:=hsm.pc;clear hsm;by_cases h0:0<=x
 ·obtain⟨j,rfl⟩:∃j:Nat,x=j:=⟨x.toNat,by omega⟩
  go_enter Tryz.func66,Tryz.ntmps66;go_upto_region 1 with fail;refine Ar (fun X=>Below w.heap.size w X/\Bb X w.heap.size 29 #[.string s.nm,.slice A1 s.sz.length c1,.slice A2 s.mu.length c2,.slice A3 s.pc.length c3,.slice A4 s.us.length c4,.slice A5 s.se.length c5,.slice A6 s.no c6]) ⟨An (Below.refl _ _) _,Bb.new _ _ _⟩ ?_
  rintro X ⟨hbX,hP⟩;obtain⟨p0,p1,p2,p3,p4,p5,p6⟩:=st7 hP;obtain⟨n3,hn3⟩:∃n,s.pc.length=n:=⟨_,rfl⟩
  rw[hn3] at p3 v7 v9 HR;clear hn3;by_cases h1:j<n3
  ·obtain⟨b0,off,rfl,vs2,hvs2,hc⟩:=(v9.keep hbX).at_ h1
   obtain⟨E1,d1,E2,d2,E3,d3,E4,d4,rfl,⟨g1,g2,-⟩,-⟩:=hvs2;have k1:=hc 1 _ rfl;have B1:(j:Int)<(n3:Int):=by omega
   have HE:=Lib.hid (show Yh s.pc (j:Int) y=(decide (0<=y)&&decide (y<(pce s.pc j).ed.length)) by rw[HR.out,decide_eq_true (show (0:Int)<=(j:Int) by omega),decide_eq_true B1];simp)
   obtain⟨m,hm⟩:∃m,(pce s.pc j).ed.length=m:=⟨_,rfl⟩
   rw[hm] at HE k1 g1;clear hc hm HR;by_cases h2:0<=y
   ·by_cases h3:y<(m:Int)
    ·have HF:=Lib.hid (show Yh s.pc (j:Int) y=true by rw[HE.out];simp[h2,h3])
     go_wp2_with fail;all_goals go_ret
     all_goals exact⟨by rw[HF.out];simp[h2,h3],hbX⟩
    ·have HF:=Lib.hid (show Yh s.pc (j:Int) y=false by rw[HE.out];simp[h2,h3])
     go_wp2_with fail;all_goals go_ret
     all_goals exact⟨by rw[HF.out];simp[h2,h3],hbX⟩
   ·have HF:=Lib.hid (show Yh s.pc (j:Int) y=false by rw[HE.out];simp[h2])
    go_wp2_with fail;all_goals go_ret
    all_goals exact⟨by rw[HF.out];rfl,hbX⟩
  ·have B1:¬(j:Int)<(n3:Int):=by omega
   have HF:=Lib.hid (show Yh s.pc (j:Int) y=false by rw[HR.out,decide_eq_false B1];simp)
   clear h1;go_wp2_with fail;all_goals go_ret
   all_goals exact⟨by rw[HF.out];rfl,hbX⟩
 ·have HF:=Lib.hid (show Yh s.pc x y=false by rw[HR.out,decide_eq_false h0];simp)
  go_enter Tryz.func66,Tryz.ntmps66;go_upto_region 1 with fail;refine Ar (fun X=>Below w.heap.size w X/\Bb X w.heap.size 29 #[.string s.nm,.slice A1 s.sz.length c1,.slice A2 s.mu.length c2,.slice A3 s.pc.length c3,.slice A4 s.us.length c4,.slice A5 s.se.length c5,.slice A6 s.no c6]) ⟨An (Below.refl _ _) _,Bb.new _ _ _⟩ ?_
  rintro X ⟨hbX,hP⟩;obtain⟨p0,p1,p2,p3,p4,p5,p6⟩:=st7 hP;obtain⟨n3,hn3⟩:∃n,s.pc.length=n:=⟨_,rfl⟩
  rw[hn3] at p3 v7 v9 HR;clear hn3;go_wp2_with fail;all_goals go_ret
  all_goals exact⟨by rw[HF.out];rfl,hbX⟩
end
theorem us3 {w:World} {g:Nat} {t:TypeId} {a b c:Value} (h:Bb w g t #[a,b,c]):w.cell? ⟨g,0,none⟩=some a/\w.cell? ⟨g,1,none⟩=some b/\w.cell? ⟨g,2,none⟩=some c :=
 ⟨(h.cell 0).trans rfl,(h.cell 1).trans rfl,(h.cell 2).trans rfl⟩
theorem se6 {w:World} {g:Nat} {t:TypeId} {a b c d e f:Value} (H:Bb w g t #[a,b,c,d,e,f]):w.cell? ⟨g,0,none⟩=some a/\w.cell? ⟨g,1,none⟩=some b/\w.cell? ⟨g,2,none⟩=some c/\w.cell? ⟨g,3,none⟩=some d/\w.cell? ⟨g,4,none⟩=some e/\w.cell? ⟨g,5,none⟩=some f :=
 ⟨(H.cell 0).trans rfl,(H.cell 1).trans rfl,(H.cell 2).trans rfl,(H.cell 3).trans rfl,(H.cell 4).trans rfl,(H.cell 5).trans rfl⟩
theorem Ak1 (vs:Array Value) (s:StyleP) (w:World) (hsm:SmS s) (hv:StV w vs s) (h:Ct s≠0):Calls Tryz.prog 42 #[.agg vs] w fun e w'=>e=.returned (.int .i64 (Ct s))/\Below w.heap.size w w':=by
 obtain⟨c,hc⟩:∃c,Ct s=c:=⟨_,rfl⟩
 rw[hc] at h ⊢;have HC:=Lib.hid hc;have hne:(c != 0)=true:=by simpa using h
 clear hc h;have hv0:=hv;obtain⟨A1,c1,A2,c2,A3,c3,A4,c4,A5,c5,A6,c6,rfl,⟨v1,v2,v3⟩,⟨v4,v5,v6⟩,⟨v7,v8,v9⟩,⟨v10,v11,v12⟩,⟨v13,v14,v15⟩,v16,v17⟩:=hv;go_enter Tryz.func42,Tryz.ntmps42;go_upto_region 1 with fail;refine Ar (fun X=>Below w.heap.size w X/\Bb X w.heap.size 29 #[.string s.nm,.slice A1 s.sz.length c1,.slice A2 s.mu.length c2,.slice A3 s.pc.length c3,.slice A4 s.us.length c4,.slice A5 s.se.length c5,.slice A6 s.no c6]) ⟨An (Below.refl _ _) _,Bb.new _ _ _⟩ ?_
 rintro X ⟨hbX,hP⟩;obtain⟨p0,p1,p2,p3,p4,p5,p6⟩:=st7 hP
 go_wp2_with (go_at_call 64;refine(Sa _ s _ hsm (hv0.keep hbX)).mono ?_;rintro e w1 ⟨rfl,hb1⟩;rw[HC.out])
 go_ret;exact⟨rfl,Ao hbX hb1⟩
theorem Ak0 (vs:Array Value) (s:StyleP) (w:World) (hsm:SmS s) (hv:StV w vs s) (h:Ct s=0):Calls Tryz.prog 42 #[.agg vs] w fun e w'=>e=.returned (.int .i64 (Bt s))/\Below w.heap.size w w':=by
 have HE:=Lib.hid (show Bt s=if Gk (Ir s.pc) s.pc.length≠0 then Gk (Ir s.pc) s.pc.length
  else if Bq (Us s) s.us.length then 3 else Gk (Xf s) s.se.length by unfold Bt;rw[if_neg (by simpa using h)])
 have HC:=Lib.hid h;clear h;have hv0:=hv;obtain⟨A1,c1,A2,c2,A3,c3,A4,c4,A5,c5,A6,c6,rfl,⟨v1,v2,v3⟩,⟨v4,v5,v6⟩,⟨v7,v8,v9⟩,⟨v10,v11,v12⟩,⟨v13,v14,v15⟩,v16,v17⟩:=hv;go_enter Tryz.func42,Tryz.ntmps42;go_upto_region 1 with fail;refine Ar (fun X=>Below w.heap.size w X/\Bb X w.heap.size 29 #[.string s.nm,.slice A1 s.sz.length c1,.slice A2 s.mu.length c2,.slice A3 s.pc.length c3,.slice A4 s.us.length c4,.slice A5 s.se.length c5,.slice A6 s.no c6]) ⟨An (Below.refl _ _) _,Bb.new _ _ _⟩ ?_
 rintro X ⟨hbX,hP⟩;obtain⟨p0,p1,p2,p3,p4,p5,p6⟩:=st7 hP;obtain⟨z1,z2,z3,z4,z5,z6⟩:=hsm;have hsm:SmS s:=⟨z1,z2,z3,z4,z5,z6⟩;have hvX:=hv0.keep hbX
 go_upto_region 4 with (go_at_call 64;refine(Sa _ s _ hsm hvX).mono ?_;rintro e w1 ⟨rfl,hb1⟩;rw[HC.out])
 have hbW:=Ao hbX hb1;have hP1:=hP.keep hb1;have hv1:=hvX.keep hb1;clear p0 p1 p2 p3 p4 p5 p6 hP hvX hv0 hbX hb1;have v9W:=v9.keep hbW;have v12W:=v12.keep hbW;have v15W:=v15.keep hbW;obtain⟨n1,hn1⟩:∃n,s.sz.length=n:=⟨_,rfl⟩
 obtain⟨n2,hn2⟩:∃n,s.mu.length=n:=⟨_,rfl⟩
 obtain⟨n3,hn3⟩:∃n,s.pc.length=n:=⟨_,rfl⟩
 obtain⟨n4,hn4⟩:∃n,s.us.length=n:=⟨_,rfl⟩
 obtain⟨n5,hn5⟩:∃n,s.se.length=n:=⟨_,rfl⟩
 obtain⟨n6,hn6⟩:∃n,s.no=n:=⟨_,rfl⟩
 rw[hn1,hn2,hn3,hn4,hn5,hn6] at hP1 hv1;have HV:=Lib.hid hv1;clear hv1;rw[hn3] at v7 z3 HE v9W;rw[hn4] at v10 z4 HE v12W;rw[hn5] at v13 z5 HE v15W;rw[hn1] at v1 z1;rw[hn2] at v4 z2;rw[hn6] at v16 z6;have HN3:=Lib.hid hn3;clear hn1 hn2 hn3 hn4 hn5 hn6 v3 v6 v9 v12 v15;obtain⟨p0,p1,p2,p3,p4,p5,p6⟩:=st7 hP1;go_upto_region 5 with fail;clear p0 p1 p2 p3 p4 p5 p6;go_loopw [4,5,6,19] (fun _ _ _ c wr=>∃k:Nat,k<=n3/\c=.int .i64 k/\Hid (Gk (Ir s.pc) k=0)/\Below w1.heap.size w1 wr) (fun _ _ _ c _=>n3-(intOf c).toNat)
 case atStart=>exact⟨0,Nat.zero_le _,rfl,Lib.hid rfl,Below.refl _ _⟩
 case round =>
  obtain⟨k,hk,rfl,hz,hb⟩:=hrel;by_cases hlt:k<n3
  ·have hPS:=v9W.keep hb
   obtain⟨b0,off,rfl,vs2,hvs2,hc⟩:=hPS.at_ hlt;have hvp:=hvs2;obtain⟨E1,d1,E2,d2,E3,d3,E4,d4,rfl,-⟩:=hvs2;have k0:=hc 0 _ rfl;rw[Nat.add_zero] at k0;have k1:=hc 1 _ rfl;have k2:=hc 2 _ rfl;have k3:=hc 3 _ rfl;have k4:=hc 4 _ rfl;have k5:=hc 5 _ rfl;have k6:=hc 6 _ rfl;clear hc;have HPE:=Lib.hid (Agl s.pc k);have HFA:=Lib.hid (fun (h2:Ir s.pc k≠0)=>Re (f:=Ir s.pc) hlt hz.out h2)
   have HFS:=Lib.hid (Iy (f:=Ir s.pc) hz.out);obtain⟨pk,hpk⟩:∃q,pce s.pc k=q:=⟨_,rfl⟩
   rw[hpk] at k0 k1 k2 k3 k4 k5 k6 hvp HPE;clear hpk;have hTk:=hPS.take (i:=k) (by omega)
   have B1:(k:Int)<(n3:Int):=by omega
   obtain⟨q0,q1,q2,q3,q4,q5,q6⟩:=st7 (hP1.keep hb);go_upto_region 7 with fail;refine Ar (fun Y=>Below wr.heap.size wr Y/\Bb Y wr.heap.size 64 #[.string pk.nm,.slice E1 pk.ed.length d1,.int .i64 pk.gr,.slice E2 pk.nt.length d2,.slice E3 pk.cr.length d3,.slice E4 pk.wd.length d4,.bool pk.mt]) ⟨An (Below.refl _ _) _,Bb.new _ _ _⟩ ?_
   rintro Y ⟨hbY,hV⟩;obtain⟨g0,g1,g2,g3,g4,g5,g6⟩:=st7 hV;have r3:=Aq hbY q3;have hTY:=hTk.keep hbY;have hvY:=hvp.keep hbY;have S1:(0:Int)<=(k:Int):=by omega
   have S2:(k:Int)<=(c3:Int):=by omega
   clear k0 k1 k2 k3 k4 k5 k6 q0 q1 q2 q3 q4 q5 q6 hTk hvp hPS;have hbD:=Aw (Below.refl Y.heap.size Y);obtain⟨pe,hpe⟩:∃c,Ir s.pc k=c:=⟨_,rfl⟩
   rw[hpe] at HPE HFA HFS;clear hpe;by_cases h0:pe=0
   ·subst h0
    go_region_held3 (fun w'=>w'.cell? ⟨w.heap.size,3,none⟩=some (.slice (some ⟨b0,off,none⟩) n3 c3)/\w'.cell? ⟨wr.heap.size,0,none⟩=some (.string pk.nm)/\w'.cell? ⟨wr.heap.size,1,none⟩=some (.slice E1 pk.ed.length d1)/\w'.cell? ⟨wr.heap.size,2,none⟩=some (.int .i64 pk.gr)/\w'.cell? ⟨wr.heap.size,3,none⟩=some (.slice E2 pk.nt.length d2)/\w'.cell? ⟨wr.heap.size,4,none⟩=some (.slice E3 pk.cr.length d3)/\w'.cell? ⟨wr.heap.size,5,none⟩=some (.slice E4 pk.wd.length d4)/\w'.cell? ⟨wr.heap.size,6,none⟩=some (.bool pk.mt))
     (with_reducible exact⟨Aq hbD r3,st7 (hV.keep hbD)⟩)
     ((go_at_call 65;refine(Uf _ _ k (s.pc.take k) _ pk _ (by omega) (hTY.keep hbD) (hvY.keep hbD)).mono ?_;rintro e w2 ⟨rfl,hb2⟩;rw[<-HPE.out];replace hbD:=Ao hbD hb2))
    have HF2:=Lib.hid (HFS.out);go_wp2_with fail;exact⟨⟨k+1,by omega,by go_num,HF2,Ao (Ao hb hbY) hbD⟩,by simp[intOf];omega⟩
   ·have hne:(pe != 0)=true:=by simpa using h0
    have HR:=Lib.hid (HFA.out h0)
    go_region_held3 (fun w'=>w'.cell? ⟨w.heap.size,3,none⟩=some (.slice (some ⟨b0,off,none⟩) n3 c3)/\w'.cell? ⟨wr.heap.size,0,none⟩=some (.string pk.nm)/\w'.cell? ⟨wr.heap.size,1,none⟩=some (.slice E1 pk.ed.length d1)/\w'.cell? ⟨wr.heap.size,2,none⟩=some (.int .i64 pk.gr)/\w'.cell? ⟨wr.heap.size,3,none⟩=some (.slice E2 pk.nt.length d2)/\w'.cell? ⟨wr.heap.size,4,none⟩=some (.slice E3 pk.cr.length d3)/\w'.cell? ⟨wr.heap.size,5,none⟩=some (.slice E4 pk.wd.length d4)/\w'.cell? ⟨wr.heap.size,6,none⟩=some (.bool pk.mt))
     (with_reducible exact⟨Aq hbD r3,st7 (hV.keep hbD)⟩)
     ((go_at_call 65;refine(Uf _ _ k (s.pc.take k) _ pk _ (by omega) (hTY.keep hbD) (hvY.keep hbD)).mono ?_;rintro e w2 ⟨rfl,hb2⟩;rw[<-HPE.out];replace hbD:=Ao hbD hb2))
    have HR2:=Lib.hid (show Bt s=pe by rw[HE.out,if_pos (by rw[HR.out];exact h0),HR.out])
    go_wp2_with fail;go_ret;exact⟨by rw[HR2.out];rfl,Ao hbW (Ao (Ao hb hbY) hbD)⟩
  ·obtain rfl:n3=k:=by omega
   have HE2:=Lib.hid (show Bt s=if Bq (Us s) n4 then 3 else Gk (Xf s) n5 by rw[HE.out,if_neg (by rw[hz.out];simp)])
   have hbV:=Ao hbW hb;have hP2:=hP1.keep hb;have HV2:=Lib.hid (HV.out.keep hb);have v12V:=v12W.keep hb;have v15V:=v15W.keep hb;obtain⟨p0,p1,p2,p3,p4,p5,p6⟩:=st7 hP2;obtain⟨wo,hwo⟩:∃wo:World,wr=wo:=⟨_,rfl⟩
   rw[hwo] at hbV hP2 HV2 v12V v15V p0 p1 p2 p3 p4 p5 p6 ⊢;clear hwo hb hP1 HV v9W v12W v15W;go_upto_region 12 with fail;clear p0 p1 p2 p3 p4 p5 p6;go_loopw [8,37] (fun _ c wr=>∃k:Nat,k<=n4/\c=.int .i64 k/\Hid (Bq (Us s) k=false)/\Below wo.heap.size wo wr) (fun _ c _=>n4-(intOf c).toNat)
   case atStart=>exact⟨0,Nat.zero_le _,rfl,Lib.hid (Bq.zero _),Below.refl _ _⟩
   case round =>
    obtain⟨k,hk,rfl,hz4,hb⟩:=hrel;by_cases hlt:k<n4
    ·obtain⟨b9,off9,rfl,e0,e1,e2⟩:=(v12V.keep hb).at_ hlt
     have B1:(k:Int)<(n4:Int):=by omega
     have HU:=Lib.hid (show Us s k=(decide ((use s.us k).pc<0) || decide ((n3:Int)<=(use s.us k).pc) || decide ((use s.us k).ct<1) || decide (4<(use s.us k).ct)) by unfold Us;rw[HN3.out])
     obtain⟨x,hx⟩:∃x,(use s.us k).pc=x:=⟨_,rfl⟩
     obtain⟨y,hy⟩:∃x,(use s.us k).ct=x:=⟨_,rfl⟩
     obtain⟨z,hz⟩:∃x,(use s.us k).pr=x:=⟨_,rfl⟩
     rw[hx] at e0 HU;rw[hy] at e1 HU;rw[hz] at e2;clear hx hy hz;obtain⟨q0,q1,q2,q3,q4,q5,q6⟩:=st7 (hP2.keep hb);go_upto_region 14 with fail;refine Ar (fun Y=>Below wr.heap.size wr Y/\Bb Y wr.heap.size 53 #[.int .i64 x,.int .i64 y,.bool z]) ⟨An (Below.refl _ _) _,Bb.new _ _ _⟩ ?_
     rintro Y ⟨hbY,hV⟩;obtain⟨g0,g1,g2⟩:=us3 hV;have r3:=Aq hbY q3;have hbU:=Ao hb hbY;clear q0 q1 q2 q3 q4 q5 q6 e0 e1 e2;have HRB:=Lib.hid (fun (h:Us s k=true)=>show Bt s=3 by rw[HE2.out,if_pos (Bq.yes (f:=Us s) hlt h)])
     by_cases h1:x<0
     ·have HR:=Lib.hid (HRB.out (by rw[HU.out];simp[h1]))
      go_wp2_with fail;all_goals go_ret
      all_goals exact⟨by rw[HR.out];rfl,Ao hbV hbU⟩
     ·obtain⟨j,rfl⟩:∃j:Nat,x=j:=⟨x.toNat,by omega⟩
      by_cases h2:(n3:Int)<=(j:Int)
      ·have HR:=Lib.hid (HRB.out (by rw[HU.out];simp[h2]))
       go_wp2_with fail;all_goals go_ret
       all_goals exact⟨by rw[HR.out];rfl,Ao hbV hbU⟩
      ·by_cases h3:y<1
       ·have HR:=Lib.hid (HRB.out (by rw[HU.out];simp[h3]))
        go_wp2_with fail;all_goals go_ret
        all_goals exact⟨by rw[HR.out];rfl,Ao hbV hbU⟩
       ·by_cases h4:4<y
        ·have HR:=Lib.hid (HRB.out (by rw[HU.out];simp[h4]))
         go_wp2_with fail;all_goals go_ret
         all_goals exact⟨by rw[HR.out];rfl,Ao hbV hbU⟩
        ·have HP:=Bq.succ (f:=Us s) hz4.out (by rw[HU.out];simp;omega)
         go_wp2_with fail;all_goals exact⟨⟨k+1,by omega,by go_num,Lib.hid HP,hbU⟩,by simp[intOf];omega⟩
    ·obtain rfl:n4=k:=by omega
     have HE3:=Lib.hid (show Bt s=Gk (Xf s) n5 by rw[HE2.out,if_neg (by rw[hz4.out];simp)])
     have hbZ:=Ao hbV hb;have hP3:=hP2.keep hb;have HV3:=Lib.hid (HV2.out.keep hb);have v15Z:=v15V.keep hb;obtain⟨p0,p1,p2,p3,p4,p5,p6⟩:=st7 hP3;obtain⟨wp,hwp⟩:∃wo:World,wr=wo:=⟨_,rfl⟩
     rw[hwp] at hbZ hP3 HV3 v15Z p0 p1 p2 p3 p4 p5 p6 ⊢;clear hwp hb hP2 HV2 v12V v15V;go_upto_region 18 with fail;clear p0 p1 p2 p3 p4 p5 p6;go_loopw [10,66] (fun _ c wr=>∃k:Nat,k<=n5/\c=.int .i64 k/\Hid (Gk (Xf s) k=0)/\Below wp.heap.size wp wr) (fun _ c _=>n5-(intOf c).toNat)
     case atStart=>exact⟨0,Nat.zero_le _,rfl,Lib.hid rfl,Below.refl _ _⟩
     case round =>
      obtain⟨k,hk,rfl,hz5,hb⟩:=hrel;by_cases hlt:k<n5
      ·obtain⟨b9,off9,rfl,e0,e1,e2,e3,e4,e5⟩:=(v15Z.keep hb).at_ hlt
       have B1:(k:Int)<(n5:Int):=by omega
       have HU:=Lib.hid (show Xf s k=if Yh s.pc (sem s.se k).pa (sem s.se k).ea=false\/Yh s.pc (sem s.se k).pb (sem s.se k).eb=false then 3 else if (sem s.se k).es<0 then 1 else 0 from rfl)
       have HFA:=Lib.hid (fun (h2:Xf s k≠0)=>show Bt s=Xf s k by rw[HE3.out];exact Re (f:=Xf s) hlt hz5.out h2)
       have HFS:=Lib.hid (Iy (f:=Xf s) hz5.out);obtain⟨⟨xa,xe,xb,xf,xr,xs⟩,hx⟩:∃x,sem s.se k=x:=⟨_,rfl⟩
       rw[hx] at e0 e1 e2 e3 e4 e5 HU;dsimp only at e0 e1 e2 e3 e4 e5 HU;clear hx;obtain⟨q0,q1,q2,q3,q4,q5,q6⟩:=st7 (hP3.keep hb);go_upto_region 20 with fail;refine Ar (fun Y=>Below wr.heap.size wr Y/\Bb Y wr.heap.size 142 #[.int .i64 xa,.int .i64 xe,.int .i64 xb,.int .i64 xf,.bool xr,.int .i64 xs]) ⟨An (Below.refl _ _) _,Bb.new _ _ _⟩ ?_
       rintro Y ⟨hbY,hV⟩;obtain⟨g0,g1,g2,g3,g4,g5⟩:=se6 hV;have hbU:=Ao hb hbY;have hPY:=hP3.keep hbU;have hVY:=HV3.out.keep hbU;obtain⟨r0,r1,r2,r3,r4,r5,r6⟩:=st7 hPY;clear q0 q1 q2 q3 q4 q5 q6 e0 e1 e2 e3 e4 e5;obtain⟨b1,hb1⟩:∃b,Yh s.pc xa xe=b:=⟨_,rfl⟩
       obtain⟨b2,hb2⟩:∃b,Yh s.pc xb xf=b:=⟨_,rfl⟩
       rw[hb1,hb2] at HU;have H1:=Lib.hid hb1;have H2:=Lib.hid hb2;clear hb1 hb2;cases b1 with
       | false =>
         have HR:=Lib.hid (show Bt s=3 by
          have e:Xf s k=3:=by rw[HU.out];simp
          rw[HFA.out (by rw[e];decide),e])
         go_wp2_with (go_at_call 66;refine(E8 _ s xa xe _ hsm hVY).mono ?_;rintro e w2 ⟨rfl,hb2⟩;rw[H1.out])
         all_goals go_ret
         all_goals exact⟨by rw[HR.out];rfl,Ao hbZ (Ao hbU hb2)⟩
       | true =>
         cases b2 with
         | false =>
           have HR:=Lib.hid (show Bt s=3 by
            have e:Xf s k=3:=by rw[HU.out];simp
            rw[HFA.out (by rw[e];decide),e])
           go_wp2_with (first
            | (go_at_call 66;have hz9:=hb2;refine(E8 _ s xb xf _ hsm (hVY.keep hb2)).mono ?_;rintro e w3 ⟨rfl,hb3⟩;rw[H2.out])
            | (go_at_call 66;refine(E8 _ s xa xe _ hsm hVY).mono ?_;rintro e w2 ⟨rfl,hb2⟩;rw[H1.out];obtain⟨t0,t1,t2,t3,t4,t5,t6⟩:=st7 (hPY.keep hb2);obtain⟨y0,y1,y2,y3,y4,y5⟩:=se6 (hV.keep hb2)))
           all_goals go_ret
           all_goals exact⟨by rw[HR.out];rfl,Ao hbZ (Ao hbU (Ao hb2 hb3))⟩
         | true =>
           by_cases h0:xs<0
           ·have HR:=Lib.hid (show Bt s=1 by
             have e:Xf s k=1:=by rw[HU.out];simp[h0]
             rw[HFA.out (by rw[e];decide),e])
            go_wp2_with (first
             | (go_at_call 66;have hz9:=hb2;refine(E8 _ s xb xf _ hsm (hVY.keep hb2)).mono ?_;rintro e w3 ⟨rfl,hb3⟩;rw[H2.out];have y5':=Aq hb3 y5)
             | (go_at_call 66;refine(E8 _ s xa xe _ hsm hVY).mono ?_;rintro e w2 ⟨rfl,hb2⟩;rw[H1.out];obtain⟨t0,t1,t2,t3,t4,t5,t6⟩:=st7 (hPY.keep hb2);obtain⟨y0,y1,y2,y3,y4,y5⟩:=se6 (hV.keep hb2)))
            all_goals go_ret
            all_goals exact⟨by rw[HR.out];rfl,Ao hbZ (Ao hbU (Ao hb2 hb3))⟩
           ·have HP:=Lib.hid (show Gk (Xf s) (k+1)=0 by rw[HFS.out,HU.out];simp[h0])
            go_wp2_with (first
             | (go_at_call 66;have hz9:=hb2;refine(E8 _ s xb xf _ hsm (hVY.keep hb2)).mono ?_;rintro e w3 ⟨rfl,hb3⟩;rw[H2.out];have y5':=Aq hb3 y5)
             | (go_at_call 66;refine(E8 _ s xa xe _ hsm hVY).mono ?_;rintro e w2 ⟨rfl,hb2⟩;rw[H1.out];obtain⟨t0,t1,t2,t3,t4,t5,t6⟩:=st7 (hPY.keep hb2);obtain⟨y0,y1,y2,y3,y4,y5⟩:=se6 (hV.keep hb2)))
            all_goals exact⟨⟨k+1,by omega,by go_num,HP,Ao hbU (Ao hb2 hb3)⟩,by simp[intOf];omega⟩
      ·obtain rfl:n5=k:=by omega
       have HR:=Lib.hid (show Bt s=0 by rw[HE3.out,hz5.out])
       go_wp2_with fail;go_ret;exact⟨by rw[HR.out];rfl,Ao hbZ hb⟩
theorem Dj (vs:Array Value) (s:StyleP) (w:World) (hsm:SmS s) (hv:StV w vs s):Calls Tryz.prog 42 #[.agg vs] w fun e w'=>e=.returned (.int .i64 (Bt s))/\Below w.heap.size w w':=by
 by_cases h:Ct s=0
 ·exact Ak0 vs s w hsm hv h
 ·rw[show Bt s=Ct s by unfold Bt;rw[if_pos h]]
  exact Ak1 vs s w hsm hv h
end Go.Proofs.YtpbchbcdgikonaaGreat

/- Lean texts of the claim. -/
import Derived.Test.YtlogblbfbihleaaGreatZr01
namespace Go.Proofs.YtlogblbfbihleaaGreat
set_option linter.all false
set_option maxRecDepth 100000
set_option maxHeartbeats 0
open Go.RowKit
variable{a:World}
def xj (c:Int):Bool:=decide (48<=c)&&decide (c<=57)
theorem G1(c:Int) (w:World):Calls Tryz.prog 307 #[.int .u8 c] w λe a=>e=.returned (.bool (xj c))/\w=a:=by
 go_enter Tryz.func307,Tryz.ntmps307;go_wp2;all_goals go_ret
 all_goals exact⟨Bn (by first|(simp[xj]<;>omega)|(simp[xj, *];done)),rfl⟩
def byI (s:ByteArray) (i:Nat):Int:=if h:i<s.size then (s[i].toNat:Int) else 0
def chB (i:Nat) (c:Int):Bool:=(decide (97<=c)&&decide (c<=122)) || (!(i == 0)&&(c == 95 || xj c))
def Ow (s:ByteArray):Bool:=decide (s.size=0) || decide (24<s.size) || s.toList == [109,105,110] || s.toList == [109,97,120]
def Cy (s:ByteArray):Bool:=!Ow s&&!Bp (λi=>!chB i (byI s i)) s.size
theorem fe(s:ByteArray) (w:World) (h:Ow s=true):Calls Tryz.prog 249 #[.string s] w (Bz w (.bool false)):=by
 unfold Ow at h;simp at h;go_enter Tryz.func249,Tryz.ntmps249;go_upto_region 4 with fail
 all_goals first
  | (go_ret;exact⟨rfl,bl0⟩)
  | (exfalso;simp_all;done)
  | (exfalso;simp_all;omega)
theorem Wm(s:ByteArray) (w:World) (h:Ow s=false):Calls Tryz.prog 249 #[.string s] w (Bz w (.bool (Cy s))):=by
 have z:=Ar (show Cy s=!Bp (fun i=>!chB i (byI s i)) s.size by unfold Cy;rw[h];rfl);unfold Ow at h;simp only[Bool.or_eq_false_iff,decide_eq_false_iff_not]at h;obtain⟨⟨⟨E,F⟩,L⟩,M⟩:=h;have G:(s.size:Int)<=24:=by omega
 have J:((s.size:Int) == 0)=false:=by rw[beq_eq_false_iff_ne];omega
 have K:decide (24<(s.size:Int))=false:=by rw[decide_eq_false_iff_not];omega
 clear E F;go_enter Tryz.func249,Tryz.ntmps249;go_upto_region 4 with fail;go_loopw [3,4,5,24] (fun _ _ _ i wr=>∃k:Nat,k<=s.size/\i=.int .i64 k/\Hid (Bp (fun i=>!chB i (byI s i)) k=false)/\wr=w) (fun _ _ _ i _=>s.size-(intOf i).toNat)
 case atStart=>exact⟨0,Nat.zero_le _,rfl,Bp.zero _,rfl⟩
 obtain⟨k,N,rfl,v,rfl⟩:=hrel;by_cases o:k<s.size
 ·have I:(k:Int)<(s.size:Int):=by omega
  obtain⟨c,H⟩:∃c:Int,(s[k].toNat:Int)=c:=⟨_,rfl⟩
  have n:byI s k=c:=by unfold byI;rw[dif_pos o,H]
  obtain⟨t,A⟩:∃t,((k:Int) == 0)=t:=⟨_,rfl⟩
  have j:(k == 0)=t:=by rw[<-A];cases k<;>rfl
  obtain⟨C,q⟩:∃d,xj c=d:=⟨_,rfl⟩
  obtain⟨B,p⟩:∃u,(c == 95)=u:=⟨_,rfl⟩
  have r:(c != 95)=!B:=by rw[<-p];rfl
  have g:=Ar n;rcases(show (97<=c/\c<=122)\/(c<97\/97<=c/\decide (c<=122)=false) by rw[decide_eq_false_iff_not];omega) with⟨l1,l2⟩|a
  ·have b:=Ar (show chB k c=true by unfold chB;simp[l1,l2]);clear n j q r p;have m:=Bp.succ (f:=fun i=>!chB i (byI s i)) v.out (by rw[g.out,b.out];rfl)
   skip
   all_goals go_wp2_with (go_at_call 307;refine(G1 _ _).mono ?_;rintro e x ⟨rfl,rfl⟩)
   all_goals (first|exact⟨⟨k+1,by omega,by go_num,m,trivial⟩,by simp[intOf];omega⟩|(go_roundw;(case rel=>exact⟨k+1,by omega,by go_num,m,rfl⟩);(case measure=>simp[intOf];omega)))
  have b:=Ar (show chB k c=(!t&&(B || C)) by
   have:(decide (97<=c)&&decide (c<=122))=false:=by rcases a with h|⟨_,h⟩<;>simp at h ⊢<;>omega
   unfold chB;rw[this,j,p,q];rfl)
  clear n j;cases t with
  | true =>
    have y:=Ar (show Cy s=false by rw[z.out,Bp.yes (f:=fun i=>!chB i (byI s i)) o (by rw[g.out,b.out];rfl)];rfl);rcases a with a|⟨a,l⟩
    all_goals go_wp2_with (go_at_call 307;refine(G1 _ _).mono ?_;rintro e x ⟨rfl,rfl⟩)
    all_goals (go_ret;exact⟨by rw[y.out];rfl,bl0⟩)
  | false =>
    cases B with
    | true =>
      have m:=Bp.succ (f:=fun i=>!chB i (byI s i)) v.out (by rw[g.out,b.out];rfl);rcases a with a|⟨a,l⟩
      all_goals go_wp2_with (go_at_call 307;refine(G1 _ _).mono ?_;rintro e x ⟨rfl,rfl⟩)
      all_goals (first|exact⟨⟨k+1,by omega,by go_num,m,trivial⟩,by simp[intOf];omega⟩|(go_roundw;(case rel=>exact⟨k+1,by omega,by go_num,m,rfl⟩);(case measure=>simp[intOf];omega)))
    | false =>
      cases C with
      | true =>
        have m:=Bp.succ (f:=fun i=>!chB i (byI s i)) v.out (by rw[g.out,b.out];rfl);rcases a with a|⟨a,l⟩
        all_goals go_wp2_with (go_at_call 307;refine(G1 _ _).mono ?_;rintro e x ⟨rfl,rfl⟩)
        all_goals (first|exact⟨⟨k+1,by omega,by go_num,m,trivial⟩,by simp[intOf];omega⟩|(go_roundw;(case rel=>exact⟨k+1,by omega,by go_num,m,rfl⟩);(case measure=>simp[intOf];omega)))
      | false =>
        have y:=Ar (show Cy s=false by rw[z.out,Bp.yes (f:=fun i=>!chB i (byI s i)) o (by rw[g.out,b.out];rfl)];rfl);rcases a with a|⟨a,l⟩
        all_goals go_wp2_with (go_at_call 307;refine(G1 _ _).mono ?_;rintro e x ⟨rfl,rfl⟩)
        all_goals (go_ret;exact⟨by rw[y.out];rfl,bl0⟩)
 obtain rfl:k=s.size:=by omega
 have D:=Ar (show Cy s=true by rw[z.out,v.out];rfl)
 go_wp2_with fail;go_ret;exact⟨by rw[D.out];rfl,bl0⟩
theorem Cj{P:Program} {c:Code} {Q:Exit->Act->World->Prop} {a:Act} {w:World} (F:World->Prop) (b:F w) (h:∀X,F X->c.wp P Q a X):c.wp P Q a w:=h w b
theorem Bf.pair{w:World} {g:Nat} {t:TypeId} {u v:Value} (h:Bf w g t #[u,v]):Cq w g 0 u/\Cq w g 1 v/\w.frozen? ⟨g,0,none⟩=false/\w.frozen? ⟨g,1,none⟩=false/\g<w.heap.size :=
 ⟨(h.cell 0).trans rfl,(h.cell 1).trans rfl,h.frozen 0,h.frozen 1,h.lt⟩
theorem Ds{z:Int} (a:0<=z) (b:z<18446744073709551616):IntKind.u64.wrap z=z:=by rw[IntKind.wrap_u64];omega
end Go.Proofs.YtlogblbfbihleaaGreat

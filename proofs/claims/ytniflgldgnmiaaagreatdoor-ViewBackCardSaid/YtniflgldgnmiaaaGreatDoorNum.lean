/-
  num.Text: what it writes of a number. No conditions but the number's range.
-/
import Derived.Test.YtniflgldgnmiaaaGreatDoorProg
import Derived.KernelRfl
import Derived.Test.YtniflgldgnmiaaaGreatDoorCore9
namespace Go.Proofs.YtniflgldgnmiaaaGreatDoor
open Go Eng Tryz
set_option maxHeartbeats 0
instance ize_166:ZeF prog 166 (.agg [.int .u8 0,.int .u8 0,.int .u8 0,.int .u8 0,.int .u8 0,.int .u8 0,.int .u8 0,.int .u8 0,.int .u8 0,.int .u8 0,.int .u8 0,.int .u8 0,.int .u8 0,.int .u8 0,.int .u8 0,.int .u8 0,.int .u8 0,.int .u8 0,.int .u8 0,.int .u8 0]):=⟨by kernel_rfl⟩
instance iun_2:UnF prog 2 (.int .i64):=⟨by kernel_rfl⟩
instance iun_167:UnF prog 167 (.int .u64):=⟨by kernel_rfl⟩
instance iun_5:UnF prog 5 (.int .u8):=⟨by kernel_rfl⟩
instance iun_166:UnF prog 166 (.array 20 5):=⟨by kernel_rfl⟩
instance isz_5:SzF prog 5 1:=⟨by kernel_rfl⟩
instance iun_168:UnF prog 168 (.slice 5):=⟨by kernel_rfl⟩
instance iun_9:UnF prog 9 (.string):=⟨by kernel_rfl⟩
def v26h4:CV:=Jt [Jd 8 0,Jc 9 (.binOp .lss 2 (Ja 8) (Jb 0) 2)] (.cond (Ja 9) (.reg [Jd 10 5,Jc 11 (.unOp .neg 167 (Ja 10)),Jh 5 11]) (.skip))
def v26k0t3:CV:=Jt [Jd 22 5,Jc 23 (.binOp .eql 167 (Ja 22) (.const (.int .u64 0)) 167)] (.cond (Ja 23) (.exit 0) (.skip))
def v26k0t2:CV:=Jt [Jd 20 5,Jc 21 (.binOp .quo 167 (Ja 20) (.const (.int .u64 10)) 167),Jh 5 21] v26k0t3
def v26k0t1:CV:=Jt [Jd 14 4,Jd 15 5,Jc 16 (.binOp .rem 167 (Ja 15) (.const (.int .u64 10)) 167),Jc 17 (.binOp .add 167 (.const (.int .u64 48)) (Ja 16) 167),Jc 18 (.convert 167 5 (Ja 17)),Jk 19 166 3 14,.op none (.store 5 (Ja 19) (Ja 18))] v26k0t2
def v26k0:CV:=Jt [Jd 12 4,Jc 13 (.binOp .sub 3 (Ja 12) (Jb 1) 3),Jh 4 13] v26k0t1
def v26l0:CV:=.block 1 v26k0
def v26c1:CV:=Jt [Jd 26 4,Jc 27 (.binOp .sub 3 (Ja 26) (Jb 1) 3),Jh 4 27] (.reg [Jd 28 4,Jk 29 166 3 28,.op none (.store 5 (Ja 29) (.const (.int .u8 45)))])
def v26h6:CV:=Jt [Jd 24 0,Jc 25 (.binOp .lss 2 (Ja 24) (Jb 0) 2)] (.cond (Ja 25) v26c1 (.skip))
def v26t7:CV:=Jt [Jd 30 4,Jc 31 (.slice 166 (Ja 3) (some (Ja 30)) none none),Jc 32 (.convert 168 9 (Ja 31)),Jh 2 32] (.ret)
def v26t6:CV:=.seq v26h6 v26t7
def v26t5:CV:=.seq (.block 0 (.loop v26l0)) v26t6
def v26t4:CV:=.seq v26h4 v26t5
def v26t3:CV:=Jt [Jd 6 0,Jc 7 (.convert 2 167 (Ja 6)),Jh 5 7] v26t4
def v26t2:CV:=Jt [Ji 4 20] v26t3
def v26t1:CV:=Jt [Jc 3 (.alloc 166)] v26t2
def v26:CV:=Jt [Jc 2 (.assign (.const (.string ⟨⟨[]⟩⟩)))] v26t1
noncomputable def b26:Code:=f26.body.getD .skip
theorem b26_eq:f26.body=some b26:=by kernel_rfl
theorem v26_eq:viewC prog b26=some v26:=by kernel_rfl
theorem r26_eq:f26.results.toList=[.tmp 2]:=by kernel_rfl
def textN (u:Nat):List UInt8:=if u<10 then [UInt8.ofNat (48+u)] else textN (u / 10)++[UInt8.ofNat (48+u % 10)]
termination_by u
decreasing_by omega
theorem zey {u:Nat}(h:u<10):textN u=[UInt8.ofNat (48+u)]:=by rw [textN,if_pos h]
theorem zgu {u:Nat}(h:¬u<10):textN u=textN (u / 10)++[UInt8.ofNat (48+u % 10)]:=by rw [textN,if_neg h]
theorem zeh:∀(k u:Nat),u<10 ^ k→0<k→(textN u).length≤k
 |0,_,_,h=>absurd h (by omega)
 |k+1,u,h,_=>by
  by_cases hu:u<10
  ·rw [zey hu];simp
  ·rw [zgu hu,J1,Qc];have h1:0<k:=by
    rcases Nat.eq_zero_or_pos k with h0|h0
    ·subst h0;simp at h;omega
    ·exact h0
   have:u / 10<10 ^ k:=by rw [Nat.pow_succ] at h;omega
   have:=zeh k (u / 10) this h1;omega
theorem zfm (u:Nat):0<(textN u).length:=by
 by_cases hu:u<10
 ·rw [zey hu];simp
 ·rw [zgu hu,J1,Qc];omega
def textZ (n:Int):List UInt8:=if n<0 then 45::textN n.natAbs else textN n.natAbs
theorem zx6 (k:Nat) (z x:AV) (r:List AV):(List.replicate (k+1) z++r).set k x=List.replicate k z++x::r:=by
 rw [List.replicate_succ',List.append_assoc,List.set_append,List.length_replicate,if_neg (Nat.lt_irrefl k),Nat.sub_self];rfl
theorem zu9 {tb:List FuncId}{gl:List (List AV)}{n:Int}{b:Nat}{H0:Heap}(hb0:H0.nx≤b) {w0:Nat}(hw:w0<18446744073709551616) {Q:Ex→Fm→Heap→Prop}
  (hQ:∀(l:Fm) H (k:Nat),Sb [(0,.int .i64 n),(3,.ptr b 0),(4,.int .i64 (k:Int))] l→Keep Non H0 H→IsRow H b (List.replicate k (AV.int .u8 0)++(textN w0).map u8) false false→k+(textN w0).length=20→Q (.exit 0) l H)
  {l:Fm}{H:Heap}(hl:Sb [(0,.int .i64 n),(3,.ptr b 0),(4,.int .i64 20),(5,.int .u64 (w0:Int))] l) (hk:Keep Non H0 H) (hr:IsRow H b (List.replicate 20 (AV.int .u8 0)) false false):VA prog tb gl (.loop v26l0) l H Q:=by
 refine zbv (fun (a:Nat×Nat×List UInt8)=>[(0,.int .i64 n),(3,.ptr b 0),(4,.int .i64 (a.1:Int)),(5,.int .u64 (a.2.1:Int))]) (fun a H=>Keep Non H0 H∧IsRow H b (List.replicate a.1 (AV.int .u8 0)++a.2.2.map u8) false false∧
  textN w0=textN a.2.1++a.2.2∧a.1+a.2.2.length=20∧a.2.1≤w0) (fun a=>a.1) ?_ (20,w0,[]) l H hl ⟨hk,by simpa using hr,by simp,rfl,Jz _⟩
 rintro ⟨k,u,ds⟩ H ⟨hk,hr,ht,hd,hu⟩;have hp:(10:Nat) ^ 20=100000000000000000000:=by rfl
 have hlen:=zeh 20 w0 (by rw [hp];omega) (by omega);clear hp;have hpos:=zfm u;rw [ht,J1] at hlen;simp only at hk hr ht hd hu hlen hpos;obtain ⟨k,rfl⟩:∃j,k=j+1:=⟨k-1,by omega⟩
 refine zau (zac ?_);refine zaa (zal rfl ?_);refine zaa (zc4 (c:=(k:Int)) rfl rfl Ju ?_);(repeat ((refine zaa (zak rfl ?_))));refine zab (zac ?_);refine zaa (zal rfl (zaa (zal rfl ?_)));refine zaa (zxi (c:=((u % 10:Nat):Int)) rfl rfl (by decide) rfl ?_);refine zaa (zaz (c:=((48+u % 10:Nat):Int)) rfl rfl (zqa (by omega) (by omega) (by omega)) ?_);(repeat ((refine zaa (zkf UnF.h UnF.h rfl (zrj (by omega) (by omega)) ?_))));refine zaa (zli (j:=k) UnF.h SzF.h rfl rfl rfl (by omega) ?_);refine zaa (zbu SzF.h rfl rfl rfl hr (by simp;omega) fun H1 hk1 hn1 hr1=>?_);have h0:0+k*1=k:=by omega
 rw [h0,zx6] at hr1;have hu8:AV.int .u8 ((48+u % 10:Nat):Int)=u8 (UInt8.ofNat (48+u % 10)):=by
  have h1:(UInt8.ofNat (48+u % 10)).toNat=48+u % 10:=by rw [UInt8.toNat_ofNat'];omega
  simp only [u8,h1]
 rw [hu8] at hr1;have hK1:Keep Non H0 H1:=hk.trans hk1 fun c hc=>by subst hc;exact .inr hb0
 refine zab (zac ?_);refine zaa (zal rfl ?_);refine zaa (zhx (c:=((u / 10:Nat):Int)) rfl rfl (by decide) (zko (z:=((u / 10:Nat):Int)) (by omega) (by omega)) ?_);(repeat ((refine zaa (zak rfl ?_))));refine zab (zac ?_);(repeat (refine zaa ?_;first|refine zal rfl ?_|refine oa_eql rfl rfl ?_));refine zab (zlz rfl (fun hc=>?_) (fun hc=>?_))
 ·simp only [Qj] at hc;have hu0:u<10:=by omega
  refine zbq ?_;have e:textN w0=UInt8.ofNat (48+u % 10)::ds:=by rw [ht,zey hu0,show u % 10=u by omega];rfl
  refine hQ _ _ k ⟨rfl,rfl,rfl,trivial⟩ hK1 ?_ ?_
  ·rw [e];exact hr1
  ·rw [e];simp;omega
 ·simp only [decide_eq_false_iff_not] at hc;have hu0:¬u<10:=by omega
  refine zam ⟨(k,u / 10,UInt8.ofNat (48+u % 10)::ds),Nat.lt_succ_self k,⟨rfl,rfl,rfl,rfl,trivial⟩,hK1,hr1,?_,?_,?_⟩
  ·rw [ht,zgu hu0,List.append_assoc];rfl
  ·simp;omega
  ·show u / 10≤w0;omega
theorem zva {tb:List FuncId}{gl:List (List AV)}(n:Int) (h1 : -9223372036854775808≤n) (h2:n<9223372036854775808) (H:Heap) {Q:AV→Heap→Prop}(q:∀H',Keep Non H H'→Q (S (textZ n)) H'):WpF prog tb gl 26 [.int .i64 n] H Q:=by
 refine fa func26 b26_eq v26_eq r26_eq (.inr (by simp)) ?_;refine zac ?_;(repeat ((refine zaa (zak rfl ?_))));refine zab (zac ?_);refine zaa (za8 ZeF.h fun H1 hk1 hr1=>?_);refine zab (zac ?_);(repeat ((refine zaa (zak rfl ?_))));refine zab (zac ?_);refine zaa (zal rfl ?_);refine zaa (zxa UnF.h UnF.h rfl ?_);(repeat ((refine zaa (zak rfl ?_))));refine zab (zaj (zac ?_));(repeat (refine zaa ?_;first|refine zal rfl ?_|refine zxg rfl rfl ?_));refine zab ?_;have hw:n.natAbs<18446744073709551616:=by omega
 have fin:∀(l:Fm) (H3:Heap) (k:Nat) (bs:List UInt8),Sb [(3,.ptr H.nx 0),(4,.int .i64 (k:Int))] l→Keep Non H H3→IsRow H3 H.nx (List.replicate k (AV.int .u8 0)++bs.map u8) false false→k+bs.length=20→0<bs.length→bs=textZ n→VA prog tb gl v26t7 l H3 (leftA [.tmp 2] Q):=by
  intro l H3 k bs hl hk hr hd hp hb;refine VA.sub hl (zac ?_);refine zaa (zal rfl ?_);refine zaa (zxb (a:=k) (c:=20) UnF.h SzF.h rfl (zkt rfl rfl) rfl (by omega) (by omega) (by omega) ?_);have hs:IsSl H3 (.sl H.nx (0+k*1) (20-k) (20-k)) 1 (20-k) (bs.map u8):=by
   refine ⟨by rw [List.length_map];omega,.inr (.inr ⟨H.nx,0+k*1,_,false,false,.inr ⟨_,rfl,Jz _⟩,hr,fun j hj=>?_⟩)⟩
   ·rw [List.getElem?_append_right (by rw [List.length_replicate];omega),List.length_replicate]
    congr 1
    omega
  refine zaa (zxj UnF.h UnF.h UnF.h rfl hs ?_);(repeat ((refine zaa (zak rfl ?_))));refine zab (zao ⟨_,rfl,?_⟩);rw [hb];exact q H3 hk
 have main:∀l:Fm,Sb [(0,.int .i64 n),(3,.ptr H.nx 0),(4,.int .i64 20),(5,.int .u64 (n.natAbs:Int))] l→VA prog tb gl v26t5 l H1 (leftA [.tmp 2] Q):=by
  intro l hl;refine zaj (zau (zu9 (H0:=H) (Jz _) hw (fun l H2 k hl hk2 hr2 hd=>?_) hl hk1 hr1));have hp:(10:Nat) ^ 19=10000000000000000000:=by rfl
  have hlen:=zeh 19 n.natAbs (by rw [hp];omega) (by omega);clear hp;have hpos:=zfm n.natAbs;refine VA.sub hl (zaj (zac ?_));(repeat (refine zaa ?_;first|refine zal rfl ?_|refine zxg rfl rfl ?_));refine zab (zlz rfl (fun hc=>?_) (fun hc=>?_))
  ·have hc:n<0:=by simpa using hc
   obtain ⟨k,rfl⟩:∃j,k=j+1:=⟨k-1,by omega⟩
   refine zac ?_;refine zaa (zal rfl ?_);refine zaa (zc4 (c:=(k:Int)) rfl rfl Ju ?_);(repeat ((refine zaa (zak rfl ?_))));refine zab (za1 ?_);(repeat ((refine zaa (zal rfl ?_))));refine zaa (zli (j:=k) UnF.h SzF.h rfl rfl rfl (by omega) ?_);refine zaa (zbu SzF.h rfl rfl rfl hr2 (by simp;omega) fun H3 hk3 _ hr3=>?_);have h0:0+k*1=k:=by omega
   rw [h0,zx6] at hr3;refine zab (fin _ H3 k (45::textN n.natAbs) ⟨rfl,rfl,trivial⟩ (hk2.trans hk3 fun c hc=>by subst hc;exact .inr (Jz _)) hr3 (by simp;omega) (by simp) (by rw [textZ,if_pos hc]))
  ·have hc:¬n<0:=by simpa using hc
   exact zam (fin _ H2 k (textN n.natAbs) ⟨rfl,rfl,trivial⟩ hk2 hr2 hd hpos (by rw [textZ,if_neg hc]))
 refine zlz rfl (fun hc=>?_) (fun hc=>?_)
 ·have hc:n<0:=by simpa using hc
  refine za1 ?_;refine zaa (zal rfl ?_);have e:IntKind.u64.wrap (-(IntKind.u64.wrap n))=(n.natAbs:Int):=by
   rw [zgz,zgz];omega
  refine zaa (oa_neg rfl ?_);rw [e];(repeat ((refine zaa (zak rfl ?_))));exact zab (main _ ⟨rfl,rfl,rfl,rfl,trivial⟩)
 ·have hc:¬n<0:=by simpa using hc
  have e:IntKind.u64.wrap n=(n.natAbs:Int):=by
   rw [zgz];omega
  rw [e];exact zam (main _ ⟨rfl,rfl,rfl,rfl,trivial⟩)
instance iun_40:UnF prog 40 (.slice 9):=⟨by kernel_rfl⟩
instance iel_40:ElF prog 40 ⟨9,1,.str 0 0⟩:=⟨by kernel_rfl⟩
instance isz_9:SzF prog 9 1:=⟨by kernel_rfl⟩
instance ipl_9:PlF prog 9 ⟨0,false,1⟩:=⟨by kernel_rfl⟩
instance iel_168:ElF prog 168 ⟨5,1,.int .u8 0⟩:=⟨by kernel_rfl⟩
def v27k0h1:CV:=Jt [Jd 13 4,Jc 14 (.binOp .gtr 3 (Ja 13) (Jb 0) 3)] (.cond (Ja 14) (.reg [Jd 15 3,Jc 16 (.buildSlice 168 1 #[(0,(.const (.int .u8 32)))]),Jc 17 (.call ⟨.builtin .append,#[(Ja 15),(Ja 16)],#[168,168]⟩),Jh 3 17]) (.skip))
def v27k0t1:CV:=.seq v27k0h1 (.reg [Jd 18 3,Jd 19 5,Jc 20 (.call ⟨.builtin .append,#[(Ja 18),(Ja 19)],#[168,9]⟩),Jh 3 20])
def v27k0:CV:=Jt [Jd 10 8,Jk 11 40 6 8,Jf 12 9 11,Jh 4 10,Jh 5 12] v27k0t1
def v27l0t2:CV:=.seq (.block 1 v27k0) (.reg [Jc 21 (.binOp .add 3 (Ja 8) (Jb 1) 3),Jd 8 21])
def v27l0t1:CV:=.seq (.cond (Ja 9) (.skip) (.exit 0)) v27l0t2
def v27l0:CV:=Jt [Jc 9 (.binOp .lss 3 (Ja 8) (Ja 7) 3)] v27l0t1
def v27h2:CV:=Jt [Jd 6 0,Jj 7 6 40,Je 8 0] (.block 0 (.loop v27l0))
def v27t3:CV:=Jt [Jd 22 3,Jc 23 (.convert 168 9 (Ja 22)),Jh 2 23] (.ret)
def v27t2:CV:=.seq v27h2 v27t3
def v27t1:CV:=Jt [Jc 3 (.assign (.const (.slice none 0 0)))] v27t2
def v27:CV:=Jt [Jc 2 (.assign (.const (.string ⟨⟨[]⟩⟩)))] v27t1
noncomputable def b27:Code:=f27.body.getD .skip
theorem b27_eq:f27.body=some b27:=by kernel_rfl
theorem v27_eq:viewC prog b27=some v27:=by kernel_rfl
theorem r27_eq:f27.results.toList=[.tmp 2]:=by kernel_rfl
def v111l0h0:CV:=Jt [Jd 7 3,Jc 8 (.binOp .eql 9 (Ja 7) (.const (.string ⟨⟨[]⟩⟩)) 9),Jd 9 8,Jp 9 false 10 4,Js 9 false 11 (.binOp .gtr 167 (Ja 10) (.const (.int .u64 0)) 167),Jc 12 (.pick (Ja 9) (.const (.bool true)) (Ja 11))] (.cond (Ja 12) (.skip) (.exit 0))
def v111k0:CV:=Jt [Jd 13 4,Jc 14 (.binOp .rem 167 (Ja 13) (.const (.int .u64 10)) 167),Jc 15 (.binOp .add 167 (.const (.int .u64 48)) (Ja 14) 167),Jc 16 (.convert 167 5 (Ja 15)),Jc 17 (.buildSlice 168 1 #[(0,(Ja 16))]),Jc 18 (.convert 168 9 (Ja 17)),Jd 19 3,Jc 20 (.binOp .add 9 (Ja 18) (Ja 19) 9),Jh 3 20] (.reg [Jd 21 4,Jc 22 (.binOp .quo 167 (Ja 21) (.const (.int .u64 10)) 167),Jh 4 22])
def v111l0:CV:=.seq v111l0h0 (.block 1 v111k0)
def v111h4:CV:=Jt [Jd 23 0,Jc 24 (.binOp .lss 2 (Ja 23) (Jb 0) 2)] (.cond (Ja 24) (.reg [Jd 25 3,Jc 26 (.binOp .add 9 (.const (.string ⟨⟨[45]⟩⟩)) (Ja 25) 9),Jh 3 26]) (.skip))
def v111t5:CV:=Jt [Jd 27 3,Jh 2 27] (.ret)
def v111t4:CV:=.seq v111h4 v111t5
def v111t3:CV:=.seq (.block 0 (.loop v111l0)) v111t4
def v111t2:CV:=Jt [Jd 5 0,Jn 6 163 5 2,Jh 4 6] v111t3
def v111t1:CV:=Jt [Jc 3 (.assign (.const (.string ⟨⟨[]⟩⟩)))] v111t2
def v111:CV:=Jt [Jc 2 (.assign (.const (.string ⟨⟨[]⟩⟩)))] v111t1
noncomputable def b111:Code:=f111.body.getD .skip
theorem b111_eq:f111.body=some b111:=by kernel_rfl
theorem v111_eq:viewC prog b111=some v111:=by kernel_rfl
theorem r111_eq:f111.results.toList=[.tmp 2]:=by kernel_rfl
def v163c0:CV:=Jt [Jd 5 0,Jn 6 110 5 2,Jc 7 (.convert 2 167 (Ja 6)),Jh 2 7] (.ret)
def v163h1:CV:=Jt [Jd 3 0,Jc 4 (.binOp .lss 2 (Ja 3) (Jb 0) 2)] (.cond (Ja 4) v163c0 (.skip))
def v163t2:CV:=Jt [Jd 8 0,Jc 9 (.convert 2 167 (Ja 8)),Jh 2 9] (.ret)
def v163t1:CV:=.seq v163h1 v163t2
def v163:CV:=Jt [Jc 2 (.assign (.const (.int .u64 0)))] v163t1
noncomputable def b163:Code:=f163.body.getD .skip
theorem b163_eq:f163.body=some b163:=by kernel_rfl
theorem v163_eq:viewC prog b163=some v163:=by kernel_rfl
theorem r163_eq:f163.results.toList=[.tmp 2]:=by kernel_rfl
def joinW (ws:List (List UInt8)):List UInt8:=(ws.flatMap (32 :: ·)).tail
theorem zmp (ws:List (List UInt8)) (w:List UInt8):joinW (ws++[w])=if ws=[] then w else joinW ws++32::w:=by
 cases ws with
 |nil=>simp [joinW]
 |cons a l=>simp [joinW]
def txC (s:List UInt8):List AV:=[S s]
theorem zog (s:List UInt8):(txC s).length=1:=rfl
theorem zg9:∀bs:List UInt8,strCells bs.length (packL bs)=bs.map u8
 |[]=>rfl
 |b::l=>by
  have hb:b.toNat<256:=b.toNat_lt;have h1:Nat.mod (packL (b::l)) 256=b.toNat:=by
   show (b.toNat+256*packL l) % 256=b.toNat;omega
  have h2:Nat.div (packL (b::l)) 256=packL l:=by
   show (b.toNat+256*packL l) / 256=packL l;omega
  rw [Jy,strCells];simp only [zbj,h1,h2,zg9 l,List.map_cons];rfl
theorem zv6 (H:Heap) (bs:List UInt8):elemsOf H (S bs) 1=some (bs.length,bs.map u8):=by
 show (bif Nat.beq 1 1 then some (bs.length,strCells bs.length (packL bs)) else none)=_;rw [zg9];rfl
theorem zoe:∀bs:List UInt8,scalL (bs.map u8)=true
 |[]=>rfl
 |_::l=>by
  show scalL (l.map u8)=true;exact zoe l
theorem zr9 {ws:List (List UInt8)}:(joinW ws).length≤(ws.flatMap (32 :: ·)).length:=by
 rw [joinW,List.length_tail];omega
theorem zgd {α β:Type}(f:α→List β):∀(l:List α) (i:Nat),((l.take i).flatMap f).length≤(l.flatMap f).length
 |[],i=>by simp
 |a::l,0=>by simp
 |a::l,i+1=>by
  have:=zgd f l i;simp only [List.take_succ_cons,List.flatMap_cons,J1];omega
section
variable {tb:List FuncId}{gl:List (List AV)}{H:Heap}{v:AV}{Q:AV→Heap→Prop}
theorem Join_ok {ws:List (List UInt8)}(hv:IsSl H v 1 ws.length (ws.flatMap txC)) (hb:(ws.flatMap (32 :: ·)).length<500000) (hn:ws.length<500000) (hQ:∀H',Keep Non H H'→Q (S (joinW ws)) H'):WpF prog tb gl 27 [v] H Q:=by
 have hlim:limit=1000000:=rfl;refine fa func27 b27_eq v27_eq r27_eq (.inr (by simp)) ?_;refine zac ?_;(repeat ((refine zaa (zak rfl ?_))));refine zab (zac ?_);(repeat ((refine zaa (zak rfl ?_))));refine zab (zaj (zac ?_));refine zaa (zal rfl ?_);refine zaa (za3 rfl rfl rfl UnF.h rfl hv ?_);(repeat ((refine zaa (zal rfl ?_))));refine zab (zau ?_);refine zbv (fun (a:Nat×AV)=>[(3,a.2),(6,v),(7,.int .i64 (ws.length:Int)),(8,.int .i64 (a.1:Int))])
  (fun a H'=>Keep Non H H'∧a.1≤ws.length∧Own H' a.2 1 (joinW (ws.take a.1)).length ((joinW (ws.take a.1)).map u8)∧∀c,ownB a.2 c→H.nx≤c) (fun a=>ws.length-a.1) ?_ (0,.nils) _ H ⟨rfl,rfl,rfl,rfl,trivial⟩ ⟨.refl _ _,Nat.zero_le _,.nil _ _,fun _ h=>h.elim⟩
 rintro ⟨i,u⟩ H1 ⟨hk,hle,ho,hno⟩;simp only at hle ho hno;refine zac ?_;by_cases hi:i=ws.length
 ·refine zaa (zck rfl rfl (Qf (by simp only;omega)) ?_);refine zab (zaj (zag rfl (zbq ?_)));subst hi;rw [List.take_length] at ho;refine zac ?_;refine zaa (zal rfl ?_);refine zaa (zxj UnF.h UnF.h UnF.h rfl ho.sl ?_);refine zaa (zak rfl (zab (zao ⟨_,rfl,hQ _ hk⟩)))
 have hlt:i<ws.length:=by omega
 refine zaa (zck rfl rfl (Qg (by simp only;omega)) ?_);refine zab (zaj (zai rfl (zam ?_)));obtain ⟨w,hw⟩:∃w,ws[i]? = some w:=⟨_,Qa hlt⟩
 have htake:ws.take (i+1)=ws.take i++[w]:=by rw [List.take_add_one,hw];rfl
 have hchunk:=zja zog ws i w hw;have hb1:=zgd (32 :: ·) ws (i+1);have hb2:=zr9 (ws:=ws.take i);rw [htake,List.flatMap_append,J1] at hb1;simp only [List.flatMap_cons,List.flatMap_nil,List.append_nil,Jy] at hb1;refine zaj (zau (zac ?_));refine zaa (zal rfl ?_);refine zaa (za9 UnF.h SzF.h rfl (hv.keep0 hk) rfl rfl hlt fun p hp=>?_);rw [hchunk] at hp;refine zaa (zby PlF.h rfl hp rfl ?_);(repeat ((refine zaa (zak rfl ?_))))
 -- the word is put behind
 have put:∀(l2:Fm) (H2:Heap) (u2:AV) (bs:List UInt8),Sb [(3,u2),(5,S w),(6,v),(7,.int .i64 (ws.length:Int)),(8,.int .i64 (i:Int))] l2→Keep Non H H2→Own H2 u2 1 bs.length (bs.map u8)→(∀c,ownB u2 c→H.nx≤c)→bs++w=joinW (ws.take (i+1))→bs.length+w.length<600000→
   VA prog tb gl (.reg [.op (some 18) (.move (.tmp 3)),.op (some 19) (.move (.tmp 5)),.op (some 20) (.call ⟨.builtin .append,#[(.tmp 18),(.tmp 19)],#[168,9]⟩),.op (some 3) (.assign (.tmp 20))]) l2 H2 (exitA 1 (seqA prog tb gl (.reg [.op (some 21) (.binOp .add 3 (.tmp 8) (.const (.int .i64 1)) 3),.op (some 8) (.move (.tmp 21))])
    (roundA (fun (a:Nat×AV)=>[(3,a.2),(6,v),(7,.int .i64 (ws.length:Int)),(8,.int .i64 (a.1:Int))]) (fun a H'=>Keep Non H H'∧a.1≤ws.length∧Own H' a.2 1 (joinW (ws.take a.1)).length ((joinW (ws.take a.1)).map u8)∧∀c,ownB a.2 c→H.nx≤c) (fun a=>ws.length-a.1) (i,u)
     (exitA 0 (seqA prog tb gl v27t3 (leftA [.tmp 2] Q)))))):=by
  intro l2 H2 u2 bs h2 hk2 ho2 hno2 hbs hsum;refine VA.sub h2 (za1 ?_);refine zaa (zal rfl (zaa (zal rfl ?_)));refine zaa (zfg (e:=0) rfl rfl rfl ElF.h (.inr UnF.h) rfl ho2 rfl (zv6 _ _) (by simp) (zoe w) (by omega) fun u3 H3 ho3 hk3 hb3=>?_);refine zaa (zak rfl (zab (za1 ?_)));refine zaa (zaz (c:=((i+1:Nat):Int)) rfl rfl Ju ?_);refine zaa (zal rfl (zab ⟨(i+1,u3),?_,⟨rfl,rfl,rfl,rfl,trivial⟩,hk2.trans hk3 fun c hc=>.inr (hno2 c hc),by simp only;omega,?_,fun c hc=>(hb3 c hc).elim (hno2 c) fun h=>Nat.le_trans hk2.nx h⟩))
  ·show ws.length-(i+1)<ws.length-i;omega
  ·simp only;rw [←hbs,J1,List.map_append];exact ho3
 refine zab (zaj (zac ?_));refine zaa (zal rfl ?_);by_cases h0:i=0
 ·refine zaa (zgl rfl rfl (Qf (by omega)) (zab (zag rfl (zam ?_))));refine put _ H1 u [] ⟨rfl,rfl,rfl,rfl,rfl,trivial⟩ hk (by subst h0;exact ho) hno ?_ (by simp only [J9];omega);subst h0;rw [htake,zmp,List.take_zero,if_pos rfl];rfl
 refine zaa (zgl rfl rfl (Qg (by omega)) (zab (zai rfl (za1 ?_))));refine zaa (zal rfl ?_);refine zaa (zap (n:=1) ElF.h (by decide) rfl rfl fun H4 hk4 hr4=>?_);refine zaa (zfg rfl rfl rfl ElF.h (.inl UnF.h) rfl (ho.keep0 hk4) rfl (IsRow.sl (es:=1) (n:=1) hr4 rfl (Jz 1)).elems rfl rfl (by omega) fun w' H5 ho5 hk5 hb5=>?_);refine zaa (zak rfl (zab ?_));refine put _ H5 w' (joinW (ws.take i)++[32]) ⟨rfl,rfl,rfl,rfl,rfl,trivial⟩ ((hk.trans0 hk4).trans hk5 fun c hc=>.inr (hno c hc)) ?_ (fun c hc=>(hb5 c hc).elim (hno c) fun h=>Nat.le_trans (hk.trans0 hk4).nx h) ?_ ?_
 ·rw [J1,List.map_append];exact ho5
 ·rw [htake,zmp,if_neg (fun h=>by
   have:=congrArg List.length h;rw [Qh,J9] at this;omega),List.append_assoc]
  rfl
 ·rw [J1,Qc];omega
theorem size_ok (n:Nat) (hn:n<9223372036854775808) (hQ:Q (.int .u64 (n:Int)) H):WpF prog tb gl 163 [.int .i64 (n:Int)] H Q:=by
 refine fa func163 b163_eq v163_eq r163_eq (.inr (by simp)) ?_;refine zac ?_;(repeat ((refine zaa (zak rfl ?_))));refine zab (zaj (zac ?_));refine zaa (zal rfl ?_);refine zaa (zck rfl rfl (Qf (by omega)) (zab (zag rfl (zam (zac ?_)))));refine zaa (zal rfl ?_);refine zaa (zkf (c:=(n:Int)) UnF.h UnF.h rfl (zko (by omega) (by omega)) ?_);refine zaa (zak rfl (zab (zao ⟨_,rfl,hQ⟩)))
theorem zrm (n:Nat) (hn:n<9223372036854775808) (hQ:∀H',Keep Non H H'→Q (S (textN n)) H'):WpF prog tb gl 111 [.int .i64 (n:Int)] H Q:=by
 refine fa func111 b111_eq v111_eq r111_eq (.inr (by simp)) ?_;refine zac ?_;(repeat ((refine zaa (zak rfl ?_))));refine zab (zac ?_);(repeat ((refine zaa (zak rfl ?_))));refine zab (zac ?_);refine zaa (zal rfl ?_);refine zaa (zaf rfl rfl rfl (size_ok n hn ?_));(repeat ((refine zaa (zak rfl ?_))));refine zab (zaj (zau ?_));have hp:(10:Nat) ^ 19=10000000000000000000:=by rfl
 have hlen:=zeh 19 n (by rw [hp];omega) (by omega);clear hp;refine zbv (fun (a:Nat×List UInt8)=>[(0,.int .i64 (n:Int)),(3,S a.2),(4,.int .u64 (a.1:Int))])
  (fun a H'=>Keep Non H H'∧a.1≤n∧((a.2=[]∧a.1=n)∨(a.2≠[]∧a.1=0∧textN n=a.2)∨(a.2≠[]∧a.1≠0∧textN n=textN a.1++a.2))) (fun a=>if a.2=[] then a.1+1 else a.1) ?_ (n,[]) _ H ⟨rfl,rfl,rfl,trivial⟩ ⟨.refl _ _,Jz _,.inl ⟨rfl,rfl⟩⟩
 rintro ⟨u,s⟩ H1 ⟨hk,hu,hI⟩;simp only at hu hI;have hsl:s.length≤19:=by
  rcases hI with ⟨rfl,_⟩|⟨_,_,h⟩|⟨_,_,h⟩
  ·simp
  ·rw [←h];exact hlen
  ·rw [h,J1] at hlen;omega
 -- a round
 have body:∀l2:Fm,(s=[]∨u≠0)→Sb [(0,.int .i64 (n:Int)),(3,S s),(4,.int .u64 (u:Int))] l2→VA prog tb gl (.block 1 v111k0) l2 H1 (roundA (fun (a:Nat×List UInt8)=>[(0,.int .i64 (n:Int)),(3,S a.2),(4,.int .u64 (a.1:Int))])
   (fun a H'=>Keep Non H H'∧a.1≤n∧((a.2=[]∧a.1=n)∨(a.2≠[]∧a.1=0∧textN n=a.2)∨(a.2≠[]∧a.1≠0∧textN n=textN a.1++a.2))) (fun a=>if a.2=[] then a.1+1 else a.1) (u,s) (exitA 0 (seqA prog tb gl v111t4 (leftA [.tmp 2] Q)))):=by
  intro l2 hor h2;refine VA.sub h2 (zau (zac ?_));refine zaa (zal rfl ?_);refine zaa (zxi (c:=((u % 10:Nat):Int)) rfl rfl (by decide) rfl ?_);refine zaa (zaz (c:=((48+u % 10:Nat):Int)) rfl rfl (zqa (by omega) (by omega) (by omega)) ?_);(repeat ((refine zaa (zkf UnF.h UnF.h rfl (zrj (by omega) (by omega)) ?_))));refine zaa (zap (n:=1) ElF.h (by decide) rfl rfl fun H2 hk2 hr2=>?_);have hu8:AV.int .u8 ((48+u % 10:Nat):Int)=u8 (UInt8.ofNat (48+u % 10)):=by
   have h1:(UInt8.ofNat (48+u % 10)).toNat=48+u % 10:=by rw [UInt8.toNat_ofNat'];omega
   simp only [u8,h1]
  rw [hu8] at hr2;refine zaa (zxj (bs:=[UInt8.ofNat (48+u % 10)]) UnF.h UnF.h UnF.h rfl (IsRow.sl (es:=1) (n:=1) hr2 rfl (Jz 1)) ?_);refine zaa (zal rfl ?_);refine zaa (zgm rfl rfl (by simp only [Qc];have:pow63=9223372036854775808:=rfl;omega) ?_);refine zaa (zak rfl (zab (za1 ?_)));refine zaa (zal rfl ?_);refine zaa (zhx (c:=((u / 10:Nat):Int)) rfl rfl (by decide) (zko (z:=((u / 10:Nat):Int)) (by omega) (by omega)) ?_);refine zaa (zak rfl (zab ⟨(u / 10,UInt8.ofNat (48+u % 10)::s),?_,⟨rfl,rfl,rfl,trivial⟩,hk.trans0 hk2,by simp only;omega,?_⟩))
  ·show (if UInt8.ofNat (48+u % 10)::s=[] then u / 10+1 else u / 10)<(if s=[] then u+1 else u);rw [if_neg (by simp)];rcases hor with h|h
   ·rw [if_pos h];omega
   ·split<;>omega
  ·have ht:textN n=textN u++s:=by
    rcases hI with ⟨h1,h3⟩|⟨h1,h3,_⟩|⟨_,_,h3⟩
    ·rw [h1,h3,List.append_nil]
    ·rcases hor with h|h
     ·exact absurd h h1
     ·exact absurd h3 h
    ·exact h3
   simp only;by_cases h10:u<10
   ·refine .inr (.inl ⟨by simp,by omega,?_⟩);rw [ht,zey h10,show u % 10=u by omega];rfl
   ·refine .inr (.inr ⟨by simp,by omega,?_⟩);rw [ht,zgu h10,List.append_assoc];rfl
 refine zaj (zac ?_);refine zaa (zal rfl ?_);by_cases hs:s=[]
 ·refine zaa (zbt (q:=[]) rfl rfl (Qg hs) ?_);refine zaa (zal rfl ?_);refine zbh rfl (zbh rfl ?_);refine zaa (zaq rfl rfl rfl (zab (zai rfl (zam ?_))));exact body _ (.inl hs) ⟨rfl,rfl,rfl,trivial⟩
 refine zaa (zbt (q:=[]) rfl rfl (Qf hs) ?_);refine zaa (zal rfl ?_);refine zav rfl (zal rfl ?_);by_cases hu0:u=0
 ·refine zav rfl (zgl rfl rfl (Qf (by omega)) ?_);refine zaa (za0 rfl rfl (zab (zag rfl (zbq ?_))));have hfin:textN n=s:=by
   rcases hI with ⟨h1,_⟩|⟨_,_,h⟩|⟨_,h3,_⟩
   ·exact absurd h1 hs
   ·exact h
   ·exact absurd hu0 h3
  refine zaj (zac ?_);refine zaa (zal rfl ?_);refine zaa (zck rfl rfl (Qf (by omega)) (zab (zag rfl (zam (zac ?_)))));refine zaa (zal rfl ?_);refine zaa (zak rfl (zab (zao ⟨_,rfl,?_⟩)));rw [←hfin];exact hQ _ hk
 ·refine zav rfl (zgl rfl rfl (Qg (by omega)) ?_);refine zaa (za0 rfl rfl (zab (zai rfl (zam ?_))));exact body _ (.inr hu0) ⟨rfl,rfl,rfl,trivial⟩
end
instance ipl_347:PlF prog 347 ⟨0,true,13⟩:=⟨by kernel_rfl⟩
instance iun_347:UnF prog 347 (.array 13 9):=⟨by kernel_rfl⟩
def v201t1:CV:=Jt [Jd 3 0,Jc 4 (.binOp .geq 5 (Ja 3) (.const (.int .u8 65)) 5),Jd 5 4,Jp 5 true 6 0,Js 5 true 7 (.binOp .leq 5 (Ja 6) (.const (.int .u8 90)) 5),Jc 8 (.pick (Ja 5) (Ja 7) (.const (.bool false))),Jd 9 8,Jp 9 false 10 0,Js 9 false 11 (.binOp .geq 5 (Ja 10) (.const (.int .u8 97)) 5),Jp 9 false 12 11,Jp 12 true 13 0,Js 12 true 14 (.binOp .leq 5 (Ja 13) (.const (.int .u8 122)) 5),Js 9 false 15 (.pick (Ja 12) (Ja 14) (.const (.bool false))),Jc 16 (.pick (Ja 9) (.const (.bool true)) (Ja 15)),Jh 2 16] (.ret)
def v201:CV:=Jt [Jc 2 (.assign (.const (.bool false)))] v201t1
noncomputable def b201:Code:=f201.body.getD .skip
theorem b201_eq:f201.body=some b201:=by kernel_rfl
theorem v201_eq:viewC prog b201=some v201:=by kernel_rfl
theorem r201_eq:f201.results.toList=[.tmp 2]:=by kernel_rfl
def v249t1:CV:=Jt [Jd 3 0,Jc 4 (.binOp .geq 5 (Ja 3) (.const (.int .u8 48)) 5),Jd 5 4,Jp 5 true 6 0,Js 5 true 7 (.binOp .leq 5 (Ja 6) (.const (.int .u8 57)) 5),Jc 8 (.pick (Ja 5) (Ja 7) (.const (.bool false))),Jh 2 8] (.ret)
def v249:CV:=Jt [Jc 2 (.assign (.const (.bool false)))] v249t1
noncomputable def b249:Code:=f249.body.getD .skip
theorem b249_eq:f249.body=some b249:=by kernel_rfl
theorem v249_eq:viewC prog b249=some v249:=by kernel_rfl
theorem r249_eq:f249.results.toList=[.tmp 2]:=by kernel_rfl
def v203t1:CV:=Jt [Jd 3 0,Jn 4 201 3 5,Jd 5 4,Jp 5 false 6 0,Js 5 false 7 (.call ⟨.value (.func 249),#[(Ja 6)],#[5]⟩),Jc 8 (.pick (Ja 5) (.const (.bool true)) (Ja 7)),Jd 9 8,Jp 9 false 10 0,Js 9 false 11 (.binOp .eql 5 (Ja 10) (.const (.int .u8 95)) 5),Jc 12 (.pick (Ja 9) (.const (.bool true)) (Ja 11)),Jh 2 12] (.ret)
def v203:CV:=Jt [Jc 2 (.assign (.const (.bool false)))] v203t1
noncomputable def b203:Code:=f203.body.getD .skip
theorem b203_eq:f203.body=some b203:=by kernel_rfl
theorem v203_eq:viewC prog b203=some v203:=by kernel_rfl
theorem r203_eq:f203.results.toList=[.tmp 2]:=by kernel_rfl
def v202c1:CV:=Jt [Jc 2 (.assign (.const (.bool true)))] (.ret)
def v202k0t1:CV:=Jt [Jd 9 0,Jd 10 4,Jc 11 (.binOp .eql 9 (Ja 9) (Ja 10) 9)] (.cond (Ja 11) v202c1 (.skip))
def v202k0:CV:=Jt [Jc 8 (.index 347 (Ja 5) (Ja 6)),Jh 4 8] v202k0t1
def v202l0t2:CV:=.seq (.block 1 v202k0) (.reg [Jc 12 (.binOp .add 3 (Ja 6) (Jb 1) 3),Jd 6 12])
def v202l0t1:CV:=.seq (.cond (Ja 7) (.skip) (.exit 0)) v202l0t2
def v202l0:CV:=Jt [Jc 7 (.binOp .lss 3 (Ja 6) (Jb 13) 3)] v202l0t1
def v202h1:CV:=Jt [Jc 5 (.load 347 (.global 0)),Je 6 0] (.block 0 (.loop v202l0))
def v202t2:CV:=Jt [Jc 2 (.assign (.const (.bool false)))] (.ret)
def v202t1:CV:=.seq v202h1 v202t2
def v202:CV:=Jt [Jc 2 (.assign (.const (.bool false)))] v202t1
noncomputable def b202:Code:=f202.body.getD .skip
theorem b202_eq:f202.body=some b202:=by kernel_rfl
theorem v202_eq:viewC prog b202=some v202:=by kernel_rfl
theorem r202_eq:f202.results.toList=[.tmp 2]:=by kernel_rfl
def v152c0:CV:=Jt [Jc 2 (.assign (.const (.bool false)))] (.ret)
def v152h1:CV:=Jt [Jd 4 0,Jc 5 (.binOp .eql 9 (Ja 4) (.const (.string ⟨⟨[]⟩⟩)) 9),Jd 6 5,Jp 6 false 7 0,Js 6 false 8 (.call ⟨.builtin .len,#[(Ja 7)],#[9]⟩),Js 6 false 9 (.binOp .gtr 3 (Ja 8) (Jb 40) 3),Jc 10 (.pick (Ja 6) (.const (.bool true)) (Ja 9)),Jd 11 10,Jp 11 false 12 0,Js 11 false 13 (.index 9 (Ja 12) (Jb 0)),Js 11 false 14 (.call ⟨.value (.func 201),#[(Ja 13)],#[5]⟩),Js 11 false 15 (.unOp .not 4 (Ja 14)),Jc 16 (.pick (Ja 11) (.const (.bool true)) (Ja 15)),Jd 17 16,Jp 17 false 18 0,Js 17 false 19 (.call ⟨.value (.func 202),#[(Ja 18)],#[9]⟩),Jc 20 (.pick (Ja 17) (.const (.bool true)) (Ja 19))] (.cond (Ja 20) v152c0 (.skip))
def v152c2:CV:=Jt [Jc 2 (.assign (.const (.bool false)))] (.ret)
def v152k0t1:CV:=Jt [Jd 26 0,Jd 27 3,Jc 28 (.index 9 (Ja 26) (Ja 27)),Jn 29 203 28 5,Jc 30 (.unOp .not 4 (Ja 29))] (.cond (Ja 30) v152c2 (.skip))
def v152k0:CV:=Jt [Jd 25 23,Jh 3 25] v152k0t1
def v152l1t2:CV:=.seq (.block 1 v152k0) (.reg [Jc 31 (.binOp .add 3 (Ja 23) (Jb 1) 3),Jd 23 31])
def v152l1t1:CV:=.seq (.cond (Ja 24) (.skip) (.exit 0)) v152l1t2
def v152l1:CV:=Jt [Jc 24 (.binOp .lss 3 (Ja 23) (Ja 22) 3)] v152l1t1
def v152h2:CV:=Jt [Jd 21 0,Jj 22 21 9,Je 23 0] (.block 0 (.loop v152l1))
def v152t3:CV:=Jt [Jc 2 (.assign (.const (.bool true)))] (.ret)
def v152t2:CV:=.seq v152h2 v152t3
def v152t1:CV:=.seq v152h1 v152t2
def v152:CV:=Jt [Jc 2 (.assign (.const (.bool false)))] v152t1
noncomputable def b152:Code:=f152.body.getD .skip
theorem b152_eq:f152.body=some b152:=by kernel_rfl
theorem v152_eq:viewC prog b152=some v152:=by kernel_rfl
theorem r152_eq:f152.results.toList=[.tmp 2]:=by kernel_rfl
def v277c0:CV:=Jt [Ji 2 1] (.ret)
def v277c2:CV:=Jt [Ji 2 2] (.ret)
def v277c5:CV:=Jt [Jc 11 (.binOp .eql 9 (Ja 3) (.const (.string ⟨⟨[60]⟩⟩)) 9),Jh 8 11] (.cond (Ja 8) (.skip) (.reg [Jc 12 (.binOp .eql 9 (Ja 3) (.const (.string ⟨⟨[60,61]⟩⟩)) 9),Jh 8 12]))
def v277c4:CV:=Jt [Jc 10 (.binOp .eql 9 (Ja 3) (.const (.string ⟨⟨[33,61]⟩⟩)) 9),Jh 8 10] (.cond (Ja 8) (.skip) v277c5)
def v277c3h0:CV:=Jt [Jc 9 (.binOp .eql 9 (Ja 3) (.const (.string ⟨⟨[61,61]⟩⟩)) 9),Jh 8 9] (.cond (Ja 8) (.skip) v277c4)
def v277c6:CV:=Jt [Ji 2 3] (.ret)
def v277c7h0:CV:=Jt [Jc 14 (.binOp .eql 9 (Ja 3) (.const (.string ⟨⟨[43]⟩⟩)) 9),Jh 13 14] (.cond (Ja 13) (.skip) (.reg [Jc 15 (.binOp .eql 9 (Ja 3) (.const (.string ⟨⟨[45]⟩⟩)) 9),Jh 13 15]))
def v277c8:CV:=Jt [Ji 2 4] (.ret)
def v277c10:CV:=Jt [Jc 18 (.binOp .eql 9 (Ja 3) (.const (.string ⟨⟨[47]⟩⟩)) 9),Jh 16 18] (.cond (Ja 16) (.skip) (.reg [Jc 19 (.binOp .eql 9 (Ja 3) (.const (.string ⟨⟨[37]⟩⟩)) 9),Jh 16 19]))
def v277c9h0:CV:=Jt [Jc 17 (.binOp .eql 9 (Ja 3) (.const (.string ⟨⟨[42]⟩⟩)) 9),Jh 16 17] (.cond (Ja 16) (.skip) v277c10)
def v277c11:CV:=Jt [Ji 2 5] (.ret)
def v277c9:CV:=.seq v277c9h0 (.cond (Ja 16) v277c11 (.skip))
def v277c7:CV:=.seq v277c7h0 (.cond (Ja 13) v277c8 v277c9)
def v277c3:CV:=.seq v277c3h0 (.cond (Ja 8) v277c6 v277c7)
def v277c1:CV:=Jt [Jc 7 (.binOp .eql 9 (Ja 3) (.const (.string ⟨⟨[38,38]⟩⟩)) 9),Jh 6 7] (.cond (Ja 6) v277c2 v277c3)
def v277k0:CV:=Jt [Jc 5 (.binOp .eql 9 (Ja 3) (.const (.string ⟨⟨[124,124]⟩⟩)) 9),Jh 4 5] (.cond (Ja 4) v277c0 v277c1)
def v277h1:CV:=Jt [Jd 3 0] (.block 0 v277k0)
def v277t2:CV:=Jt [Ji 2 0] (.ret)
def v277t1:CV:=.seq v277h1 v277t2
def v277:CV:=Jt [Ji 2 0] v277t1
noncomputable def b277:Code:=f277.body.getD .skip
theorem b277_eq:f277.body=some b277:=by kernel_rfl
theorem v277_eq:viewC prog b277=some v277:=by kernel_rfl
theorem r277_eq:f277.results.toList=[.tmp 2]:=by kernel_rfl
def keysL : List (List UInt8) := ["proc", "var", "if", "else", "while", "return", "print", "read", "assert", "int", "bool", "true", "false"].map fun s => s.toUTF8.data.toList
def letB (c:UInt8):Bool:=(65≤c.toNat&&c.toNat≤90)||(97≤c.toNat&&c.toNat≤122)
def digB (c:UInt8):Bool:=48≤c.toNat&&c.toNat≤57
def innB (c:UInt8):Bool:=letB c||digB c||c.toNat=95
def nameB (s:List UInt8):Bool:=(match s with|[]=>false|c::_=>letB c)&&s.length≤40 && !keysL.contains s&&s.all innB
def levB (s:List UInt8):Int:=if s=[124,124] then 1 else if s=[38,38] then 2 else if s=[61,61]∨s=[33,61]∨s=[60]∨s=[60,61] then 3 else if s=[43]∨s=[45] then 4 else if s=[42]∨s=[47]∨s=[37] then 5 else 0
def KeysIn (H:Heap):Prop:=IsRow H 0 (keysL.map S) false true
theorem KeysIn.keep {S:Nat→Prop}{H H':Heap}(h:KeysIn H) (k:Keep S H H'):KeysIn H':=IsRow.keep h k (.inr rfl)
section
variable {tb:List FuncId}{gl:List (List AV)}{H:Heap}{v w:AV}{Q:AV→Heap→Prop}
theorem zxd {t e:TypeId}{x i:Operand}{l:Fm}{n o j:Nat}{k0:IntKind}{z0:Int}{cs:List AV}(hu:prog.underlying t=some (.array n e)) (hp:plcOf prog e 0=some ⟨o,false,1⟩) (hx:evA x l=some (.agg cs)) (hi:evA i l=some (.int k0 z0)) (hz0:z0=(j:Int)) (hj:j<n) (hv:cs[j]? = some v) (hs:scal v=true)
  (q:Q v H):OA prog tb gl (.index t x i) l H Q:=
 oa (fun T hT=>by
  have hb:Nat.blt j n=true:=by rw [zbx];simpa using hj
  have hi':ev i T=some (.int k0 (.ofNat j)):=by rw [zbd hT hi,hz0];rfl
  have hj1:cs[Nat.mul j 1]? = some v:=by rw [show Nat.mul j 1=j from Nat.mul_one j];exact hv
  simp only [oper,oIndex,hu,zbd hT hx,hi',idx,hb,cond_true,hp,oPart,partL,cond_false,hj1];cases v<;>first|rfl|cases hs) q
theorem zpe (c : UInt8) (hQ : Q (.bool (letB c)) H) : WpF prog tb gl 201 [u8 c] H Q := by
  unfold u8
  obtain ⟨n, hn⟩ : ∃ n, n = c.toNat := ⟨_, rfl⟩
  unfold letB at hQ
  rw [← hn] at hQ ⊢
  refine fa func201 b201_eq v201_eq r201_eq (.inr (by simp)) ?_
  refine zac ?_
  refine zad rfl ?_
  refine zab (zac ?_)
  by_cases h1 : 65 ≤ n <;> by_cases h2 : n ≤ 90 <;> by_cases h3 : 97 ≤ n <;> by_cases h4 : n ≤ 122 <;> first
    | omega
    | ((repeat (first | refine zbh rfl ?_ | refine zo4 rfl ?_ | ((first | refine zaa ?_ | refine zav rfl ?_); first | refine zal rfl ?_ | refine zak rfl ?_ | refine zfx rfl rfl (by omega) ?_ | refine zex rfl rfl (by omega) ?_ | refine zjg rfl rfl (by omega) ?_ | refine zew rfl rfl (by omega) ?_ | refine zaq rfl rfl rfl ?_ | refine za0 rfl rfl ?_)))
       refine zab (zao ⟨_, rfl, ?_⟩)
       simpa [h1, h2, h3, h4] using hQ)
theorem digit_ok (c : UInt8) (hQ : Q (.bool (digB c)) H) : WpF prog tb gl 249 [u8 c] H Q := by
  unfold u8
  obtain ⟨n, hn⟩ : ∃ n, n = c.toNat := ⟨_, rfl⟩
  unfold digB at hQ
  rw [← hn] at hQ ⊢
  refine fa func249 b249_eq v249_eq r249_eq (.inr (by simp)) ?_
  refine zac ?_
  refine zad rfl ?_
  refine zab (zac ?_)
  by_cases h1 : 48 ≤ n <;> by_cases h2 : n ≤ 57 <;> first
    | omega
    | ((repeat (first | refine zbh rfl ?_ | ((first | refine zaa ?_ | refine zav rfl ?_); first | refine zal rfl ?_ | refine zak rfl ?_ | refine zfx rfl rfl (by omega) ?_ | refine zex rfl rfl (by omega) ?_ | refine zjg rfl rfl (by omega) ?_ | refine zew rfl rfl (by omega) ?_ | refine zaq rfl rfl rfl ?_ | refine za0 rfl rfl ?_)))
       refine zab (zao ⟨_, rfl, ?_⟩)
       simpa [h1, h2] using hQ)
theorem inner_ok (c:UInt8) (hQ:Q (.bool (innB c)) H):WpF prog tb gl 203 [u8 c] H Q:=by
 unfold innB at hQ;refine fa func203 b203_eq v203_eq r203_eq (.inr (by simp)) ?_;refine zac ?_;refine zad rfl ?_;refine zab (zac ?_);refine zad rfl ?_;refine zaa (zaf rfl rfl rfl (zpe c ?_));refine zad rfl ?_;cases h1:letB c
 ·refine zav rfl (zal rfl (zav rfl (zaf rfl rfl rfl (digit_ok c ?_))));refine zaa (za0 rfl rfl ?_);refine zad rfl ?_;cases h2:digB c
  ·refine zav rfl (zal rfl ?_);refine zav rfl (zqy (a:=(c.toNat:Int)) rfl rfl (d:=decide (c.toNat=95)) (by by_cases h:c.toNat=95<;>simp [h]<;>omega) ?_);refine zaa (za0 rfl rfl ?_);refine zad rfl ?_;refine zab (zao ⟨_,rfl,?_⟩);simpa [h1,h2] using hQ
  ·refine zbh rfl (zbh rfl ?_);refine zaa (zaq rfl rfl rfl ?_);refine zad rfl ?_;refine zab (zao ⟨_,rfl,?_⟩);simpa [h1,h2] using hQ
 ·refine zbh rfl (zbh rfl ?_);refine zaa (zaq rfl rfl rfl ?_);refine zad rfl ?_;refine zbh rfl (zbh rfl ?_);refine zaa (zaq rfl rfl rfl ?_);refine zad rfl ?_;refine zab (zao ⟨_,rfl,?_⟩);simpa [h1] using hQ
theorem isKey_ok (s:List UInt8) (hK:KeysIn H) (hQ:Q (.bool (keysL.contains s)) H):WpF prog tb gl 202 [S s] H Q:=by
 refine fa func202 b202_eq v202_eq r202_eq (.inr (by simp)) ?_;refine zac ?_;refine zad rfl ?_;refine zab (zaj (zac ?_));refine zaa (zn2 PlF.h rfl hK (by decide) ?_);refine zad rfl ?_;refine zab (zau ?_);refine zbv (fun (i:Nat)=>[(0,S s),(5,.agg (keysL.map S)),(6,.int .i64 (i:Int))]) (fun i H'=>H'=H∧i≤13∧∀j,j<i→keysL[j]?≠some s) (fun i=>13-i) ?_ 0 _ H ⟨rfl,rfl,rfl,trivial⟩ ⟨rfl,Nat.zero_le _,fun _ h=>by omega⟩;rintro i H1 ⟨hH,hle,hno⟩;subst hH;refine zac ?_;by_cases hi:i<13;rotate_left
 ·refine zaa (zck rfl rfl (Qf (by omega)) (zab (zaj (zag rfl (zbq (zac ?_))))));refine zad rfl ?_;refine zab (zao ⟨_,rfl,?_⟩);have:keysL.contains s=false:=by
   have hl:keysL.length=13:=by rfl
   cases h:keysL.contains s with
   |false=>rfl
   |true=>
    obtain ⟨j,hj⟩:=List.getElem?_of_mem (List.contains_iff_mem.1 h);exact absurd hj (hno j (by have:=(Qb.1 hj).1;omega))
  rw [this] at hQ;exact hQ
 refine zaa (zck rfl rfl (Qg (by omega)) (zab (zaj (zai rfl (zam (zaj (zau (zac ?_))))))));have hl:keysL.length=13:=by rfl
 obtain ⟨k,hk⟩:∃k,keysL[i]? = some k:=⟨_,Qa (by omega)⟩
 refine zaa (zxd (v:=S k) UnF.h PlF.h rfl rfl rfl hi (by rw [List.getElem?_map,hk];rfl) rfl ?_);refine zad rfl ?_;refine zab (zac ?_);refine zad rfl ?_;by_cases he:s=k
 ·refine zaa (zbt rfl rfl (Qg he) (zab (zai rfl (zac ?_))));refine zad rfl ?_;refine zab (zao ⟨_,rfl,?_⟩);have:keysL.contains s=true:=List.contains_iff_mem.2 (by rw [he];exact Qe hk);rw [this] at hQ;exact hQ
 refine zaa (zbt rfl rfl (Qf he) (zab (zag rfl (zam (za1 ?_)))));refine zaa (zaz (c:=((i+1:Nat):Int)) rfl rfl Ju ?_);refine zad rfl ?_;refine zab ⟨i+1,?_,⟨rfl,rfl,rfl,trivial⟩,rfl,by omega,fun j hj=>?_⟩
 ·show 13-(i+1)<13-i;omega
 ·by_cases hji:j=i
  ·subst hji;rw [hk];intro h;injection h with h
   exact he h.symm
  ·exact hno j (by omega)
theorem zu6 (s:List UInt8) (hs:s.length<9223372036854775808) (hK:KeysIn H) (hQ:Q (.bool (nameB s)) H):WpF prog tb gl 152 [S s] H Q:=by
 refine fa func152 b152_eq v152_eq r152_eq (.inr (by simp)) ?_;refine zac ?_;refine zad rfl ?_;refine zab (zaj (zac ?_));have no:nameB s=false→∀l',VA prog tb gl v152c0 l' H (seqA prog tb gl v152t2 (leftA [.tmp 2] Q)):=by
  intro h l';refine zac ?_;refine zad rfl ?_;refine zab (zao ⟨_,rfl,?_⟩);rw [h] at hQ;exact hQ
 refine zad rfl ?_;cases hsc:s with
 |nil=>
  subst hsc;refine zaa (zbt rfl rfl (Qg rfl) ?_);(repeat (first|refine zbh rfl ?_|(refine zaa ?_;first|refine zal rfl ?_|refine zaq rfl rfl rfl ?_)));exact zab (zai rfl (no rfl _))
 |cons c r=>
  rw [←hsc];have hne:s≠[]:=by rw [hsc];simp
  have hc0:s[0]? = some c:=by rw [hsc];rfl
  refine zaa (zbt (q:=[]) rfl rfl (Qf hne) ?_);refine zad rfl ?_;refine zav rfl (zal rfl (zav rfl (zb4 rfl rfl rfl UnF.h rfl ?_)));by_cases h40:40<s.length
  ·refine zav rfl (zcn rfl rfl (by omega) ?_);refine zaa (za0 rfl rfl ?_);(repeat (first|refine zbh rfl ?_|(refine zaa ?_;first|refine zal rfl ?_|refine zaq rfl rfl rfl ?_)));exact zab (zai rfl (no (by simp [nameB];intros;omega) _))
  refine zav rfl (zd1 rfl rfl (by omega) ?_);refine zaa (za0 rfl rfl ?_);refine zad rfl ?_;refine zav rfl (zal rfl (zav rfl (zcz UnF.h rfl rfl (j:=0) rfl hc0 ?_)));refine zav rfl (zaf rfl rfl rfl (zpe c ?_));refine zav rfl (zfh rfl ?_);refine zaa (za0 rfl rfl ?_);refine zad rfl ?_;cases hl:letB c with
  |false=>
   (repeat (first|refine zbh rfl ?_|(refine zaa ?_;(refine zaq rfl rfl rfl ?_))));exact zab (zai rfl (no (by simp [nameB,hsc,hl]) _))
  |true=>
   refine zav rfl (zal rfl (zav rfl (zaf rfl rfl rfl (isKey_ok s hK ?_))));refine zaa (za0 rfl rfl ?_);cases hk:keysL.contains s with
   |true=>exact zab (zai rfl (no (by simp only [nameB,hk];simp) _))
   |false=>
    refine zab (zag rfl (zam (zaj (zac ?_))));refine zad rfl ?_;refine zaa (zb4 rfl rfl rfl UnF.h rfl ?_);refine zad rfl ?_;refine zab (zau ?_);refine zbv (fun (i:Nat)=>[(0,S s),(22,.int .i64 (s.length:Int)),(23,.int .i64 (i:Int))]) (fun i H'=>H'=H∧i≤s.length∧(s.take i).all innB=true) (fun i=>s.length-i) ?_ 0 _ H ⟨rfl,rfl,rfl,trivial⟩ ⟨rfl,Nat.zero_le _,rfl⟩;rintro i H1 ⟨hH,hle,hin⟩;subst hH;refine zac ?_;by_cases hi:i<s.length;rotate_left
    ·refine zaa (zck rfl rfl (Qf (by omega)) (zab (zaj (zag rfl (zbq (zac ?_))))));refine zad rfl ?_;refine zab (zao ⟨_,rfl,?_⟩);rw [Qd (by omega)] at hin;have:nameB s=true:=by
      unfold nameB;rw [hk,hin];rw [hsc] at h40 ⊢;simp only [hl];simp at h40 ⊢;omega
     rw [this] at hQ;exact hQ
    obtain ⟨x,hx⟩:∃x,s[i]? = some x:=⟨_,Qa hi⟩
    refine zaa (zck rfl rfl (Qg (by omega)) (zab (zaj (zai rfl (zam (zaj (zau (zac ?_))))))));refine zad rfl ?_;refine zab (zac ?_);refine zad rfl ?_;refine zaa (zcz UnF.h rfl rfl rfl hx ?_);refine zaa (zaf rfl rfl rfl (inner_ok x ?_));refine zad rfl ?_;cases hix:innB x with
    |false=>
     refine zab (zai rfl (zac ?_));refine zad rfl ?_;refine zab (zao ⟨_,rfl,?_⟩);have:nameB s=false:=by
      have:s.all innB=false:=by
       cases h:s.all innB with
       |false=>rfl
       |true=>
        have:=List.all_eq_true.1 h x (Qe hx);rw [hix] at this;cases this
      unfold nameB;rw [this,Bool.and_false]
     rw [this] at hQ;exact hQ
    |true=>
     refine zab (zag rfl (zam (za1 ?_)));refine zaa (zaz (c:=((i+1:Nat):Int)) rfl rfl Ju ?_);refine zad rfl ?_;refine zab ⟨i+1,?_,⟨rfl,rfl,rfl,trivial⟩,rfl,by omega,?_⟩
     ·show s.length-(i+1)<s.length-i;omega
     ·rw [List.take_add_one,hx,List.all_append,hin];simp [hix]
end
instance isz_165:SzF prog 165 4:=⟨by kernel_rfl⟩
instance ifp_165_1:FpF prog 165 1 ⟨1,false,1⟩:=⟨by kernel_rfl⟩
instance ifp_165_3:FpF prog 165 3 ⟨3,false,1⟩:=⟨by kernel_rfl⟩
instance ipl_146:PlF prog 146 ⟨0,false,1⟩:=⟨by kernel_rfl⟩
instance iun_146:UnF prog 146 (.slice 165):=⟨by kernel_rfl⟩
instance iel_146:ElF prog 146 ⟨165,4,.agg [.int .i64 0,.str 0 0,.int .i64 0,.nils]⟩:=⟨by kernel_rfl⟩
instance ipl_165:PlF prog 165 ⟨0,true,4⟩:=⟨by kernel_rfl⟩
instance iun_67:UnF prog 67 (.slice 148):=⟨by kernel_rfl⟩
instance iel_67:ElF prog 67 ⟨148,7,.agg [.int .i64 0,.str 0 0,.str 0 0,.int .i64 0,.nils,.nils,.nils]⟩:=⟨by kernel_rfl⟩
instance isz_148:SzF prog 148 7:=⟨by kernel_rfl⟩
instance ifp_148_1:FpF prog 148 1 ⟨1,false,1⟩:=⟨by kernel_rfl⟩
instance ifp_148_2:FpF prog 148 2 ⟨2,false,1⟩:=⟨by kernel_rfl⟩
instance ifp_148_4:FpF prog 148 4 ⟨4,false,1⟩:=⟨by kernel_rfl⟩
instance ifp_148_5:FpF prog 148 5 ⟨5,false,1⟩:=⟨by kernel_rfl⟩
instance ipl_67:PlF prog 67 ⟨0,false,1⟩:=⟨by kernel_rfl⟩
instance ifp_148_6:FpF prog 148 6 ⟨6,false,1⟩:=⟨by kernel_rfl⟩
instance isz_24:SzF prog 24 1:=⟨by kernel_rfl⟩
instance ifp_24_0:FpF prog 24 0 ⟨0,false,1⟩:=⟨by kernel_rfl⟩
instance ipl_22:PlF prog 22 ⟨0,false,1⟩:=⟨by kernel_rfl⟩
instance iun_22:UnF prog 22 (.slice 69):=⟨by kernel_rfl⟩
instance iel_22:ElF prog 22 ⟨69,4,.agg [.str 0 0,.nils,.int .i64 0,.nils]⟩:=⟨by kernel_rfl⟩
instance isz_69:SzF prog 69 4:=⟨by kernel_rfl⟩
instance ifp_69_0:FpF prog 69 0 ⟨0,false,1⟩:=⟨by kernel_rfl⟩
instance ifp_69_1:FpF prog 69 1 ⟨1,false,1⟩:=⟨by kernel_rfl⟩
instance ipl_66:PlF prog 66 ⟨0,false,1⟩:=⟨by kernel_rfl⟩
instance iun_66:UnF prog 66 (.slice 82):=⟨by kernel_rfl⟩
instance iel_66:ElF prog 66 ⟨82,2,.agg [.str 0 0,.int .i64 0]⟩:=⟨by kernel_rfl⟩
instance isz_82:SzF prog 82 2:=⟨by kernel_rfl⟩
instance ifp_82_0:FpF prog 82 0 ⟨0,false,1⟩:=⟨by kernel_rfl⟩
instance ifp_69_3:FpF prog 69 3 ⟨3,false,1⟩:=⟨by kernel_rfl⟩
def v67l0h0:CV:=Jt [Jd 12 6,Jg 13 165 2 3,Jf 14 146 13,Jj 15 14 146,Jc 16 (.binOp .lss 3 (Ja 12) (Ja 15) 3),Jd 17 16,Jp 17 true 18 5,Jp 17 true 19 1,Js 17 true 20 (.binOp .leq 3 (Ja 18) (Ja 19) 3),Jc 21 (.pick (Ja 17) (Ja 20) (.const (.bool false)))] (.cond (Ja 21) (.skip) (.exit 0))
def v67l0t1:CV:=.seq (.block 1 (.reg [Jd 24 5,Jg 25 165 2 3,Jf 26 146 25,Jd 27 6,Jk 28 146 26 27,Jf 29 165 28,Jd 30 1,Jd 31 5,Jc 32 (.binOp .sub 3 (Ja 30) (Ja 31) 3),Jo 33 67 29 32 165 3,Jc 34 (.binOp .add 3 (Ja 24) (Ja 33) 3),Jh 5 34])) (.reg [Jd 22 6,Jc 23 (.binOp .add 3 (Ja 22) (Jb 1) 3),Jh 6 23])
def v67l0:CV:=.seq v67l0h0 v67l0t1
def v67h2:CV:=Jt [Ji 6 0] (.block 0 (.loop v67l0))
def v67t3:CV:=Jt [Jd 35 5,Jh 4 35] (.ret)
def v67t2:CV:=.seq v67h2 v67t3
def v67t1:CV:=Jt [Jg 7 165 2 1,Jf 8 9 7,Jj 9 8 9,Jc 10 (.binOp .quo 3 (Ja 9) (Jb 8) 3),Jc 11 (.binOp .add 3 (Jb 1) (Ja 10) 3),Jh 5 11] v67t2
def v67:CV:=Jt [Jc 2 (.box 165 (Ja 0)),Ji 4 0] v67t1
noncomputable def b67:Code:=f67.body.getD .skip
theorem b67_eq:f67.body=some b67:=by kernel_rfl
theorem v67_eq:viewC prog b67=some v67:=by kernel_rfl
theorem r67_eq:f67.results.toList=[.tmp 4]:=by kernel_rfl
def v25l0h0:CV:=Jt [Jd 8 6,Jd 9 0,Jj 10 9 67,Jc 11 (.binOp .lss 3 (Ja 8) (Ja 10) 3),Jd 12 11,Jp 12 true 13 5,Jp 12 true 14 1,Js 12 true 15 (.binOp .leq 3 (Ja 13) (Ja 14) 3),Jc 16 (.pick (Ja 12) (Ja 15) (.const (.bool false)))] (.cond (Ja 16) (.skip) (.exit 0))
def v25l1h0:CV:=Jt [Jd 37 7,Jd 38 0,Jd 39 6,Jk 40 67 38 39,Jg 41 148 40 4,Jf 42 146 41,Jj 43 42 146,Jc 44 (.binOp .lss 3 (Ja 37) (Ja 43) 3),Jd 45 44,Jp 45 true 46 5,Jp 45 true 47 1,Js 45 true 48 (.binOp .leq 3 (Ja 46) (Ja 47) 3),Jc 49 (.pick (Ja 45) (Ja 48) (.const (.bool false)))] (.cond (Ja 49) (.skip) (.exit 2))
def v25l1t1:CV:=.seq (.block 3 (.reg [Jd 52 5,Jd 53 0,Jd 54 6,Jk 55 67 53 54,Jg 56 148 55 4,Jf 57 146 56,Jd 58 7,Jk 59 146 57 58,Jf 60 165 59,Jd 61 1,Jd 62 5,Jc 63 (.binOp .sub 3 (Ja 61) (Ja 62) 3),Jo 64 67 60 63 165 3,Jc 65 (.binOp .add 3 (Ja 52) (Ja 64) 3),Jh 5 65])) (.reg [Jd 50 7,Jc 51 (.binOp .add 3 (Ja 50) (Jb 1) 3),Jh 7 51])
def v25l1:CV:=.seq v25l1h0 v25l1t1
def v25k0h1:CV:=Jt [Ji 7 0] (.block 2 (.loop v25l1))
def v25k0t2:CV:=Jt [Jd 66 5,Jd 67 0,Jd 68 6,Jk 69 67 67 68,Jg 70 148 69 5,Jf 71 67 70,Jd 72 1,Jd 73 5,Jc 74 (.binOp .sub 3 (Ja 72) (Ja 73) 3),Jo 75 25 71 74 67 3,Jc 76 (.binOp .add 3 (Ja 66) (Ja 75) 3),Jh 5 76] (.reg [Jd 77 5,Jd 78 0,Jd 79 6,Jk 80 67 78 79,Jg 81 148 80 6,Jf 82 67 81,Jd 83 1,Jd 84 5,Jc 85 (.binOp .sub 3 (Ja 83) (Ja 84) 3),Jo 86 25 82 85 67 3,Jc 87 (.binOp .add 3 (Ja 77) (Ja 86) 3),Jh 5 87])
def v25k0t1:CV:=.seq v25k0h1 v25k0t2
def v25k0:CV:=Jt [Jd 19 5,Jc 20 (.binOp .add 3 (Ja 19) (Jb 1) 3),Jd 21 0,Jd 22 6,Jk 23 67 21 22,Jg 24 148 23 1,Jf 25 9 24,Jj 26 25 9,Jc 27 (.binOp .quo 3 (Ja 26) (Jb 8) 3),Jc 28 (.binOp .add 3 (Ja 20) (Ja 27) 3),Jd 29 0,Jd 30 6,Jk 31 67 29 30,Jg 32 148 31 2,Jf 33 9 32,Jj 34 33 9,Jc 35 (.binOp .quo 3 (Ja 34) (Jb 8) 3),Jc 36 (.binOp .add 3 (Ja 28) (Ja 35) 3),Jh 5 36] v25k0t1
def v25l0t1:CV:=.seq (.block 1 v25k0) (.reg [Jd 17 6,Jc 18 (.binOp .add 3 (Ja 17) (Jb 1) 3),Jh 6 18])
def v25l0:CV:=.seq v25l0h0 v25l0t1
def v25h2:CV:=Jt [Ji 6 0] (.block 0 (.loop v25l0))
def v25t3:CV:=Jt [Jd 88 5,Jh 4 88] (.ret)
def v25t2:CV:=.seq v25h2 v25t3
def v25t1:CV:=Jt [Ji 5 0] v25t2
def v25:CV:=Jt [Ji 4 0] v25t1
noncomputable def b25:Code:=f25.body.getD .skip
theorem b25_eq:f25.body=some b25:=by kernel_rfl
theorem v25_eq:viewC prog b25=some v25:=by kernel_rfl
theorem r25_eq:f25.results.toList=[.tmp 4]:=by kernel_rfl
def v10l0h0:CV:=Jt [Jd 8 6,Jg 9 24 2 0,Jf 10 22 9,Jj 11 10 22,Jc 12 (.binOp .lss 3 (Ja 8) (Ja 11) 3),Jd 13 12,Jp 13 true 14 5,Jp 13 true 15 1,Js 13 true 16 (.binOp .leq 3 (Ja 14) (Ja 15) 3),Jc 17 (.pick (Ja 13) (Ja 16) (.const (.bool false)))] (.cond (Ja 17) (.skip) (.exit 0))
def v10l1h0:CV:=Jt [Jd 39 7,Jg 40 24 2 0,Jf 41 22 40,Jd 42 6,Jk 43 22 41 42,Jg 44 69 43 1,Jf 45 66 44,Jj 46 45 66,Jc 47 (.binOp .lss 3 (Ja 39) (Ja 46) 3),Jd 48 47,Jp 48 true 49 5,Jp 48 true 50 1,Js 48 true 51 (.binOp .leq 3 (Ja 49) (Ja 50) 3),Jc 52 (.pick (Ja 48) (Ja 51) (.const (.bool false)))] (.cond (Ja 52) (.skip) (.exit 2))
def v10l1t1:CV:=.seq (.block 3 (.reg [Jd 55 5,Jg 56 24 2 0,Jf 57 22 56,Jd 58 6,Jk 59 22 57 58,Jg 60 69 59 1,Jf 61 66 60,Jd 62 7,Jk 63 66 61 62,Jg 64 82 63 0,Jf 65 9 64,Jj 66 65 9,Jc 67 (.binOp .quo 3 (Ja 66) (Jb 8) 3),Jc 68 (.binOp .add 3 (Ja 55) (Ja 67) 3),Jh 5 68])) (.reg [Jd 53 7,Jc 54 (.binOp .add 3 (Ja 53) (Jb 1) 3),Jh 7 54])
def v10l1:CV:=.seq v10l1h0 v10l1t1
def v10k0h1:CV:=Jt [Ji 7 0] (.block 2 (.loop v10l1))
def v10k0t1:CV:=.seq v10k0h1 (.reg [Jd 69 5,Jg 70 24 2 0,Jf 71 22 70,Jd 72 6,Jk 73 22 71 72,Jg 74 69 73 3,Jf 75 67 74,Jd 76 1,Jd 77 5,Jc 78 (.binOp .sub 3 (Ja 76) (Ja 77) 3),Jo 79 25 75 78 67 3,Jc 80 (.binOp .add 3 (Ja 69) (Ja 79) 3),Jh 5 80])
def v10k0:CV:=Jt [Jd 20 5,Jc 21 (.binOp .add 3 (Ja 20) (Jb 1) 3),Jg 22 24 2 0,Jf 23 22 22,Jd 24 6,Jk 25 22 23 24,Jg 26 69 25 0,Jf 27 9 26,Jj 28 27 9,Jc 29 (.binOp .quo 3 (Ja 28) (Jb 8) 3),Jc 30 (.binOp .add 3 (Ja 21) (Ja 29) 3),Jg 31 24 2 0,Jf 32 22 31,Jd 33 6,Jk 34 22 32 33,Jg 35 69 34 1,Jf 36 66 35,Jj 37 36 66,Jc 38 (.binOp .add 3 (Ja 30) (Ja 37) 3),Jh 5 38] v10k0t1
def v10l0t1:CV:=.seq (.block 1 v10k0) (.reg [Jd 18 6,Jc 19 (.binOp .add 3 (Ja 18) (Jb 1) 3),Jh 6 19])
def v10l0:CV:=.seq v10l0h0 v10l0t1
def v10h2:CV:=Jt [Ji 6 0] (.block 0 (.loop v10l0))
def v10t3:CV:=Jt [Jd 81 5,Jh 4 81] (.ret)
def v10t2:CV:=.seq v10h2 v10t3
def v10t1:CV:=Jt [Ji 5 0] v10t2
def v10:CV:=Jt [Jc 2 (.box 24 (Ja 0)),Ji 4 0] v10t1
noncomputable def b10:Code:=f10.body.getD .skip
theorem b10_eq:f10.body=some b10:=by kernel_rfl
theorem v10_eq:viewC prog b10=some v10:=by kernel_rfl
theorem r10_eq:f10.results.toList=[.tmp 4]:=by kernel_rfl
theorem pgT:PgT prog 165 146 148 67 82 66 69 22 24 3 2 9 where
 e:=by kernel_rfl
 s:=by kernel_rfl
 m:=by kernel_rfl
 c:=by kernel_rfl
 g:=by kernel_rfl
 i:=by kernel_rfl
 n:=by kernel_rfl
 str:=by kernel_rfl
 es:=by kernel_rfl
 ss:=by kernel_rfl
 ms:=by kernel_rfl
 cs:=by kernel_rfl
 by_:=by kernel_rfl
mutual
def sizE:Exp→Nat
 |.mk _ s _ l=>1+s.length / 8+sizEs l
def sizEs:List Exp→Nat
 |[]=>0
 |e::l=>sizE e+sizEs l
end
mutual
def sizS:Stm→Nat
 |.mk _ s p _ e b d=>1+s.length / 8+p.length / 8+sizEs e+sizSs b+sizSs d
def sizSs:List Stm→Nat
 |[]=>0
 |e::l=>sizS e+sizSs l
end
def sizM:List Prm→Nat
 |[]=>0
 |p::l=>p.name.length / 8+sizM l
def sizP (p:Prc):Nat:=1+p.name.length / 8+p.params.length+sizM p.params+sizSs p.body
def sizPs:List Prc→Nat
 |[]=>0
 |p::l=>sizP p+sizPs l
theorem zfi (e:Exp):∀l:List Exp,sizEs (l++[e])=sizEs l+sizE e
 |[]=>by simp [sizEs]
 |x::l=>by simp only [List.cons_append,sizEs,zfi e l];omega
theorem zg8 (e:Stm):∀l:List Stm,sizSs (l++[e])=sizSs l+sizS e
 |[]=>by simp [sizSs]
 |x::l=>by simp only [List.cons_append,sizSs,zg8 e l];omega
theorem zp1 (e:Prm):∀l:List Prm,sizM (l++[e])=sizM l+e.name.length / 8
 |[]=>by simp [sizM]
 |x::l=>by simp only [List.cons_append,sizM,zp1 e l];omega
theorem zg7 (e:Prc):∀l:List Prc,sizPs (l++[e])=sizPs l+sizP e
 |[]=>by simp [sizPs]
 |x::l=>by simp only [List.cons_append,sizPs,zg7 e l];omega
theorem zbs {α:Type}{l:List α}{i:Nat}{x:α}(h:l[i]? = some x):l.take (i+1)=l.take i++[x]:=by rw [List.take_add_one,h];rfl
theorem zeq (l:List Exp):∀i,sizEs (l.take i)≤sizEs l:=by
 induction l with
 |nil=>intro i;simp
 |cons e l ih=>
  intro i;cases i with
  |zero=>simp [sizEs]
  |succ i=>simp only [List.take_succ_cons,sizEs];have:=ih i;omega
theorem zfk (l:List Stm):∀i,sizSs (l.take i)≤sizSs l:=by
 induction l with
 |nil=>intro i;simp
 |cons e l ih=>
  intro i;cases i with
  |zero=>simp [sizSs]
  |succ i=>simp only [List.take_succ_cons,sizSs];have:=ih i;omega
theorem zym (l:List Prm):∀i,sizM (l.take i)≤sizM l:=by
 induction l with
 |nil=>intro i;simp
 |cons e l ih=>
  intro i;cases i with
  |zero=>simp [sizM]
  |succ i=>simp only [List.take_succ_cons,sizM];have:=ih i;omega
theorem zfj (l:List Prc):∀i,sizPs (l.take i)≤sizPs l:=by
 induction l with
 |nil=>intro i;simp
 |cons e l ih=>
  intro i;cases i with
  |zero=>simp [sizPs]
  |succ i=>simp only [List.take_succ_cons,sizPs];have:=ih i;omega
def Cut (K s:Nat) (m n:Int):Prop:=((s:Int)≤m→n=s)∧(m<(s:Int)→m<n)∧0≤n∧n≤m+K
theorem Cut.add {K s t:Nat}{m n r:Int}(h:Cut K s m n) (hn:n≤m) (hr:Cut K t (m-n) r):Cut K (s+t) m (n+r):=by
 unfold Cut at *;omega
theorem zjm (e:Exp):sizE e=1+e.name.length / 8+sizEs e.l:=by cases e;simp only [sizE];rfl
theorem zq9 (e:Stm):sizS e=1+e.name.length / 8+e.proc.length / 8+sizEs e.e+sizSs e.body+sizSs e.els:=by cases e;simp only [sizS];rfl
theorem zbe {α:Type}{A:Nat→Prop}{R:Heap→List AV→α→Prop}{z:Nat}{H:Heap}{v:AV}{xs:List α}(h:IsLs A R z H v xs):∃els:List (List AV),IsSl H v z xs.length els.flatten∧∀(i:Nat) a,xs[i]? = some a→∃c,(els.flatten.drop (i*z)).take z=c∧R H c a:=by
 obtain ⟨els,h1,h2,h3⟩:=h.len;refine ⟨els,h1,fun i a ha=>?_⟩;obtain ⟨c,hc,hr⟩:=h2.get' i a ha;exact ⟨c,zk8 h3 i c hc,hr⟩
section
variable {tb:List FuncId}{gl:List (List AV)}{A:Nat→Prop}{H:Heap}{v w:AV}{Q:AV→Heap→Prop}
def Ke:Nat:=1+rB
def Ks:Nat:=1+2*rB
theorem zkq : ∀ (k : Nat) {e : Exp} {c : List AV} {m : Int} {H : Heap} {Q : AV → Heap → Prop}, szE e < k → IsE A H c e → 0 ≤ m → m ≤ 500 → (∀ n H', Keep Non H H' → Cut Ke (sizE e) m n → Q (.int .i64 n) H') → WpF prog tb gl 67 [.agg c, .int .i64 m] H Q
  | 0, _, _, _, _, _, h, _, _, _, _ => by omega
  | k + 1, e, c, m, H, Q, hk, hE, hm0, hm, hQ => by
    have hKe : Ke = 140737488351233 := rfl
    have hrB : rB = 140737488351232 := rfl
    obtain ⟨v, rfl, _, _, hs, hl, hL⟩ := hE.out
    refine fa func67 b67_eq v67_eq r67_eq (.inr (by simp)) ?_
    refine zac ?_
    refine zaa (zcy rfl fun H1 hk1 hr1 => ?_)
    obtain ⟨b, hb⟩ : ∃ b, b = H.nx := ⟨_, rfl⟩
    rw [← hb] at hr1 ⊢
    have hr1 : IsRow H1 b [.int .i64 e.kind, S e.name, .int .i64 e.num, v] false false := hr1
    refine zad rfl ?_; (repeat (((refine zaa (zar rfl ?_))); refine zad rfl ?_))
    refine zab (zac ?_)
    refine zad rfl ?_; (repeat ((refine zaa ?_; first | refine zae FpF.h (by decide) rfl ?_ | refine zah PlF.h rfl hr1 rfl ?_); refine zad rfl ?_))
    refine zaa (zb4 rfl rfl rfl UnF.h rfl ?_)
    refine zaa (zhx (c := ((e.name.length / 8 : Nat) : Int)) rfl rfl (by decide) (zca (z := ((e.name.length / 8 : Nat) : Int)) (by omega) (by omega)) ?_)
    refine zaa (zaz (c := ((1 + e.name.length / 8 : Nat) : Int)) rfl rfl Ju ?_)
    refine zad rfl ?_
    refine zab (zaj (zac ?_))
    refine zad rfl ?_
    refine zab (zau ?_)
    have hsz := zjm e
    refine zbv (fun (a : Nat × Int) => [(1, .int .i64 m), (2, .ptr b 0), (5, .int .i64 a.2), (6, .int .i64 (a.1 : Int))]) (fun a H' => Keep Non H1 H' ∧ a.1 ≤ e.l.length ∧ Cut Ke (1 + e.name.length / 8 + sizEs (e.l.take a.1)) m a.2) (fun a => e.l.length - a.1) ?_ (0, ((1 + e.name.length / 8 : Nat) : Int)) _ H1 ⟨rfl, rfl, rfl, rfl, trivial⟩ ⟨.refl _ _, Nat.zero_le _, by simp only [List.take_zero, sizEs, Cut]; omega⟩
    rintro ⟨i, n⟩ H2 ⟨hk2, hle, hC⟩
    dsimp only at hle hC ⊢
    have hr2 := hr1.keep0 hk2
    have hL2 := (hL.keep (hk1.trans0 hk2) fun _ _ _ h => h.keep (hk1.trans0 hk2))
    obtain ⟨els, hsl, hel⟩ := zbe hL2
    have hlt := zeq e.l i
    refine zaj (zac ?_)
    refine zad rfl ?_; (repeat ((refine zaa ?_; first | refine zae FpF.h (by decide) rfl ?_ | refine zah PlF.h rfl hr2 rfl ?_ | refine za3 rfl rfl rfl UnF.h rfl hsl ?_); refine zad rfl ?_))
    have hC' := hC
    unfold Cut at hC'
    have fin : (i < e.l.length → m < n) → ∀ l', Sb [(5, .int .i64 n)] l' → VA prog tb gl v67t3 l' H2 (leftA [.tmp 4] Q) := by
      intro h l' hs'
      refine VA.sub hs' (zac ?_)
      refine zad rfl ?_
      refine zab (zao ⟨_, rfl, hQ _ _ (hk1.trans0 hk2) ?_⟩)
      rw [hsz]
      by_cases hi : i < e.l.length
      · have := h hi
        unfold Cut
        omega
      · rw [Qd (by omega)] at hC
        exact hC
    by_cases hi : i < e.l.length
    rotate_left
    · (repeat (first | refine zbh rfl ?_ | (refine zaa ?_; first | refine zal rfl ?_ | refine zcr rfl rfl (by omega) ?_ | refine za0 rfl rfl ?_)))
      refine zab (zag rfl (zbq ?_))
      exact fin (fun h => absurd h hi) _ ⟨rfl, trivial⟩
    by_cases hn : n ≤ m
    rotate_left
    · (repeat (((first | refine zaa ?_ | refine zav rfl ?_); first | refine zal rfl ?_ | refine zb8 rfl rfl (by omega) ?_ | refine zfx rfl rfl (by omega) ?_ | refine zaq rfl rfl rfl ?_)))
      refine zab (zag rfl (zbq ?_))
      exact fin (fun _ => by omega) _ ⟨rfl, trivial⟩
    (repeat (((first | refine zaa ?_ | refine zav rfl ?_); first | refine zal rfl ?_ | refine zb8 rfl rfl (by omega) ?_ | refine zex rfl rfl (by omega) ?_ | refine zaq rfl rfl rfl ?_)))
    refine zab (zai rfl (zam ?_))
    obtain ⟨x, hx⟩ : ∃ x, e.l[i]? = some x := ⟨_, Qa hi⟩
    obtain ⟨cx, hcx, hEx⟩ := hel i x hx
    obtain ⟨vx, hcx2, _⟩ := hEx.out
    rw [hcx2] at hcx hEx
    have hmem : x ∈ e.l := Qe hx
    have hszx : szE x < k := by have := zha hmem; have h2 : szE e = szEs e.l + 1 := by cases e; simp only [szE]; rfl
                                omega
    refine zaj (zau (za1 ?_))
    refine zad rfl ?_; (repeat ((refine zaa ?_; first | refine zae FpF.h (by decide) rfl ?_ | refine zah PlF.h rfl hr2 rfl ?_); refine zad rfl ?_))
    refine zaa (za9 UnF.h SzF.h rfl hsl rfl rfl hi fun q0 hq0 => ?_)
    rw [hcx] at hq0
    refine zaa (zat (k := 4) PlF.h rfl (by decide) rfl hq0 ?_)
    refine zad rfl ?_
    refine zaa (zc4 (c := m - n) rfl rfl (zca (by omega) (by omega)) ?_)
    refine zaa (zaf rfl rfl rfl (zkq k hszx hEx (by omega) (by omega) fun r H3 hk3 hr => ?_))
    have hA := hC.add hn hr
    have hA' := hA
    unfold Cut at hA'
    refine zaa (zaz (c := n + r) rfl rfl (zca (by omega) (by omega)) ?_)
    refine zad rfl ?_
    refine zab (za1 ?_)
    refine zad rfl ?_
    refine zaa (zaz (c := ((i + 1 : Nat) : Int)) rfl rfl Ju ?_)
    refine zad rfl ?_
    refine zab ⟨(i + 1, n + r), ?_, ⟨rfl, rfl, rfl, rfl, trivial⟩, hk2.trans0 hk3, by dsimp only; omega, ?_⟩
    · show e.l.length - (i + 1) < e.l.length - i
      omega
    · dsimp only
      rw [zbs hx, zfi, ← Nat.add_assoc]
      exact hA
theorem Cut.wide {K L s:Nat}{m n:Int}(h:Cut K s m n) (hk:K≤L):Cut L s m n:=by
 unfold Cut at *;omega
def CutS (K s:Nat) (m n:Int):Prop:=(m<0→n=0)∧(0≤m→Cut K s m n)
theorem Cut.addS {K s t:Nat}{m n r:Int}(h:Cut K s m n) (hr:CutS K t (m-n) r):Cut K (s+t) m (n+r):=by
 unfold CutS Cut at *;obtain ⟨h1,h2⟩:=hr;by_cases hm:m-n<0
 ·have:=h1 hm;omega
 ·have:=h2 (by omega);omega
theorem zf6:∀(k:Nat) {l:List Stm}{v:AV}{m:Int}{H:Heap}{Q:AV→Heap→Prop},szSs l<k→IsLs A (IsS A) 7 H v l→l.length≤rB→-1000000000000000≤m→m≤500→(∀n H',Keep Non H H'→CutS Ks (sizSs l) m n→Q (.int .i64 n) H')→WpF prog tb gl 25 [v,.int .i64 m] H Q
 |0,_,_,_,_,_,h,_,_,_,_,_=>by omega
 |k+1,l,v,m,H,Q,hk,hL,hll,hm0,hm,hQ=>by
  have hKe:Ke=140737488351233:=rfl;have hKs:Ks=281474976702465:=rfl;have hrB:rB=140737488351232:=rfl;refine fa func25 b25_eq v25_eq r25_eq (.inr (by simp)) ?_;refine zac ?_;refine zad rfl ?_;refine zab (zac ?_);refine zad rfl ?_;refine zab (zaj (zac ?_));refine zad rfl ?_;refine zab (zau ?_);refine zbv (fun (a:Nat×Int)=>[(0,v),(1,.int .i64 m),(5,.int .i64 a.2),(6,.int .i64 (a.1:Int))]) (fun a H'=>Keep Non H H'∧a.1≤l.length∧((m<0∧a.1=0∧a.2=0)∨(0≤m∧Cut Ks (sizSs (l.take a.1)) m a.2))) (fun a=>l.length-a.1) ?_ (0,0) _ H ⟨rfl,rfl,rfl,rfl,trivial⟩ ⟨.refl _ _,Nat.zero_le _,(by
   by_cases h:m<0
   ·exact .inl ⟨h,rfl,rfl⟩
   ·exact .inr ⟨by omega,by simp only [List.take_zero,sizSs,Cut];omega⟩)⟩
  rintro ⟨i,n⟩ H2 ⟨hk2,hle,hC⟩;dsimp only at hle hC ⊢;have hL2:=(hL.keep hk2 fun _ _ _ h=>h.keep hk2)
  obtain ⟨els,hsl,hel⟩:=zbe hL2;have hlt:=zfk l i;have hC':=hC;unfold Cut at hC';refine zaj (zac ?_);refine zad rfl ?_;(repeat ((refine zaa ?_;first|refine za3 rfl rfl rfl UnF.h rfl hsl ?_);refine zad rfl ?_));have fin:(i<l.length→m<n)→∀l',Sb [(5,.int .i64 n)] l'→VA prog tb gl v25t3 l' H2 (leftA [.tmp 4] Q):=by
   intro h l' hs';refine VA.sub hs' (zac ?_);refine zad rfl ?_;refine zab (zao ⟨_,rfl,hQ _ _ hk2 ?_⟩);rcases hC with ⟨h1,h2,h3⟩|⟨h1,h2⟩
   ·exact ⟨fun _=>h3,fun h=>absurd h (by omega)⟩
   ·refine ⟨fun h=>absurd h (by omega),fun _=>?_⟩;by_cases hi:i<l.length
    ·have:=h hi;unfold Cut at *;omega
    ·rw [Qd (by omega)] at h2;exact h2
  by_cases hi:i<l.length;rotate_left
  ·(repeat (first|refine zbh rfl ?_|(refine zaa ?_;first|refine zal rfl ?_|refine zcr rfl rfl (by omega) ?_|refine za0 rfl rfl ?_)));refine zab (zag rfl (zbq ?_));exact fin (fun h=>absurd h hi) _ ⟨rfl,trivial⟩
  by_cases hn:n≤m;rotate_left
  ·(repeat (((first|refine zaa ?_|refine zav rfl ?_);first|refine zal rfl ?_|refine zb8 rfl rfl (by omega) ?_|refine zfx rfl rfl (by omega) ?_|refine zaq rfl rfl rfl ?_)));refine zab (zag rfl (zbq ?_));exact fin (fun _=>by omega) _ ⟨rfl,trivial⟩
  (repeat (((first|refine zaa ?_|refine zav rfl ?_);first|refine zal rfl ?_|refine zb8 rfl rfl (by omega) ?_|refine zex rfl rfl (by omega) ?_|refine zaq rfl rfl rfl ?_)));refine zab (zai rfl (zam ?_));have hm':0≤m:=by omega
  have hC1:Cut Ks (sizSs (l.take i)) m n:=by
   rcases hC with ⟨h1,_⟩|⟨_,h2⟩
   ·omega
   ·exact h2
  obtain ⟨x,hx⟩:∃x,l[i]? = some x:=⟨_,Qa hi⟩
  obtain ⟨cx,hcx,hSx⟩:=hel i x hx;obtain ⟨vx,wx,ux,hcx2,_,_,hs1,hs2,hl1,hl2,hl3,hE1,hB1,hD1⟩:=hSx.out;rw [hcx2] at hcx;have hmem:x∈l:=Qe hx;have hszx:szSs x.body<k∧szSs x.els<k:=by
   have h1:=zhb hmem;have h2:szS x=szSs x.body+szSs x.els+1:=by cases x;simp only [szS];rfl
   omega
  refine zaj (zau ?_);refine zac ?_;refine zad rfl ?_;refine zaa (zaz (c:=n+1) rfl rfl (zca (by omega) (by omega)) ?_);refine zad rfl ?_;refine zaa (za9 UnF.h SzF.h rfl hsl rfl rfl hi fun q0 hq0=>?_);rw [hcx] at hq0;refine zaa (za6 FpF.h (by decide) rfl hq0 fun q1 hq1=>?_);refine zaa (zby PlF.h rfl hq1 rfl ?_);refine zaa (zb4 rfl rfl rfl UnF.h rfl ?_);refine zaa (zhx (c:=((x.name.length / 8:Nat):Int)) rfl rfl (by decide) (zca (z:=((x.name.length / 8:Nat):Int)) (by omega) (by omega)) ?_);refine zaa (zaz (c:=n+1+(x.name.length / 8:Nat)) rfl rfl (zca (by omega) (by omega)) ?_);refine zad rfl ?_;refine zaa (za9 UnF.h SzF.h rfl hsl rfl rfl hi fun q0 hq0=>?_);rw [hcx] at hq0;refine zaa (za6 FpF.h (by decide) rfl hq0 fun q1 hq1=>?_);refine zaa (zby PlF.h rfl hq1 rfl ?_);refine zaa (zb4 rfl rfl rfl UnF.h rfl ?_);refine zaa (zhx (c:=((x.proc.length / 8:Nat):Int)) rfl rfl (by decide) (zca (z:=((x.proc.length / 8:Nat):Int)) (by omega) (by omega)) ?_);refine zaa (zaz (c:=n+1+(x.name.length / 8:Nat)+(x.proc.length / 8:Nat)) rfl rfl (zca (by omega) (by omega)) ?_);refine zad rfl ?_;refine zab (zaj ?_)
  -- the expressions
  obtain ⟨ss,hss⟩:∃ss,ss=sizSs (l.take i)+1+x.name.length / 8+x.proc.length / 8:=⟨_,rfl⟩
  have hC2:Cut Ks ss m (n+1+(x.name.length / 8:Nat)+(x.proc.length / 8:Nat)):=by
   unfold Cut at *;omega
  refine zj1 (fun l' H'=>∃n':Int,Keep Non H2 H'∧Cut Ks (ss+sizEs x.e) m n'∧Sb [(0,v),(1,.int .i64 m),(5,.int .i64 n'),(6,.int .i64 (i:Int))] l') ?_ ?_
  ·refine zac ?_;refine zad rfl ?_;refine zab (zau ?_);refine zbv (fun (a:Nat×Int)=>[(0,v),(1,.int .i64 m),(5,.int .i64 a.2),(6,.int .i64 (i:Int)),(7,.int .i64 (a.1:Int))]) (fun a H'=>Keep Non H2 H'∧a.1≤x.e.length∧Cut Ks (ss+sizEs (x.e.take a.1)) m a.2) (fun a=>x.e.length-a.1) ?_ (0,n+1+(x.name.length / 8:Nat)+(x.proc.length / 8:Nat)) _ H2 ⟨rfl,rfl,rfl,rfl,rfl,trivial⟩ ⟨.refl _ _,Nat.zero_le _,by simp only [List.take_zero,sizEs,Nat.add_zero];exact hC2⟩;rintro ⟨j,n'⟩ H3 ⟨hk3,hle3,hC3⟩;dsimp only at hle3 hC3 ⊢;have hsl3:=hsl.keep0 hk3;have hE3:=hE1.keep hk3 fun _ _ _ h=>h.keep hk3;obtain ⟨ees,hesl,heel⟩:=zbe hE3;have hlt3:=zeq x.e j;have hC3':=hC3;unfold Cut at hC3';refine zaj (zac ?_);refine zad rfl ?_;refine zaa (za9 UnF.h SzF.h rfl hsl3 rfl rfl hi fun q0 hq0=>?_);rw [hcx] at hq0;refine zaa (za6 FpF.h (by decide) rfl hq0 fun q1 hq1=>?_);refine zaa (zby PlF.h rfl hq1 rfl ?_);refine zaa (za3 rfl rfl rfl UnF.h rfl hesl ?_);have fin2:(j<x.e.length→m<n')→Cut Ks (ss+sizEs x.e) m n':=by
    intro h;by_cases hj:j<x.e.length
    ·have:=h hj;unfold Cut at *;omega
    ·rw [Qd (by omega)] at hC3;exact hC3
   by_cases hj:j<x.e.length;rotate_left
   ·(repeat (first|refine zbh rfl ?_|(refine zaa ?_;first|refine zal rfl ?_|refine zcr rfl rfl (by omega) ?_|refine za0 rfl rfl ?_)));exact zab (zag rfl (zbq ⟨n',hk3,fin2 fun h=>absurd h hj,rfl,rfl,rfl,rfl,trivial⟩))
   by_cases hn':n'≤m;rotate_left
   ·(repeat (((first|refine zaa ?_|refine zav rfl ?_);first|refine zal rfl ?_|refine zb8 rfl rfl (by omega) ?_|refine zfx rfl rfl (by omega) ?_|refine zaq rfl rfl rfl ?_)));exact zab (zag rfl (zbq ⟨n',hk3,fin2 fun _=>by omega,rfl,rfl,rfl,rfl,trivial⟩))
   (repeat (((first|refine zaa ?_|refine zav rfl ?_);first|refine zal rfl ?_|refine zb8 rfl rfl (by omega) ?_|refine zex rfl rfl (by omega) ?_|refine zaq rfl rfl rfl ?_)));refine zab (zai rfl (zam ?_));obtain ⟨y,hy⟩:∃y,x.e[j]? = some y:=⟨_,Qa hj⟩
   obtain ⟨cy,hcy,hEy⟩:=heel j y hy;obtain ⟨vy,hcy2,_⟩:=hEy.out;rw [hcy2] at hcy hEy;refine zaj (zau (za1 ?_));refine zad rfl ?_;refine zaa (za9 UnF.h SzF.h rfl hsl3 rfl rfl hi fun q0 hq0=>?_);rw [hcx] at hq0;refine zaa (za6 FpF.h (by decide) rfl hq0 fun q1 hq1=>?_);refine zaa (zby PlF.h rfl hq1 rfl ?_);refine zad rfl ?_;refine zaa (za9 UnF.h SzF.h rfl hesl rfl rfl hj fun q0 hq0=>?_);rw [hcy] at hq0;refine zaa (zat (k:=4) PlF.h rfl (by decide) rfl hq0 ?_);refine zad rfl ?_;refine zaa (zc4 (c:=m-n') rfl rfl (zca (by omega) (by omega)) ?_);refine zaa (zaf rfl rfl rfl (zkq (szE y+1) (by omega) hEy (by omega) (by omega) fun r H4 hk4 hr=>?_));have hA:=hC3.add hn' (hr.wide (by omega));have hA':=hA;unfold Cut at hA';refine zaa (zaz (c:=n'+r) rfl rfl (zca (by omega) (by omega)) ?_);refine zad rfl ?_;refine zab (za1 ?_);refine zad rfl ?_;refine zaa (zaz (c:=((j+1:Nat):Int)) rfl rfl Ju ?_);refine zad rfl ?_;refine zab ⟨(j+1,n'+r),?_,⟨rfl,rfl,rfl,rfl,rfl,trivial⟩,hk3.trans0 hk4,by dsimp only;omega,?_⟩
   ·show x.e.length-(j+1)<x.e.length-j;omega
   ·dsimp only;rw [zbs hy,zfi,←Nat.add_assoc];exact hA
  rintro l3 H3 ⟨n3,hk3,hC3,hs3⟩;have hC3':=hC3;unfold Cut at hC3';have hsl3:=hsl.keep0 hk3;refine VA.sub hs3 (zac ?_);refine zad rfl ?_;refine zaa (za9 UnF.h SzF.h rfl hsl3 rfl rfl hi fun q0 hq0=>?_);rw [hcx] at hq0;refine zaa (za6 FpF.h (by decide) rfl hq0 fun q1 hq1=>?_);refine zaa (zby PlF.h rfl hq1 rfl ?_);refine zad rfl ?_;refine zaa (zc4 (c:=m-n3) rfl rfl (zca (by omega) (by omega)) ?_);refine zaa (zaf rfl rfl rfl (zf6 k hszx.1 (hB1.keep hk3 fun _ _ _ h=>h.keep hk3) hl2 (by omega) (by omega) fun r H4 hk4 hr=>?_));have hC4:=hC3.addS hr;have hC4':=hC4;unfold Cut at hC4';have hsl4:=hsl3.keep0 hk4;refine zaa (zaz (c:=n3+r) rfl rfl (zca (by omega) (by omega)) ?_);refine zad rfl ?_;refine zab (za1 ?_);refine zad rfl ?_;refine zaa (za9 UnF.h SzF.h rfl hsl4 rfl rfl hi fun q0 hq0=>?_);rw [hcx] at hq0;refine zaa (za6 FpF.h (by decide) rfl hq0 fun q1 hq1=>?_);refine zaa (zby PlF.h rfl hq1 rfl ?_);refine zad rfl ?_;refine zaa (zc4 (c:=m-(n3+r)) rfl rfl (zca (by omega) (by omega)) ?_);refine zaa (zaf rfl rfl rfl (zf6 k hszx.2 ((hD1.keep hk3 fun _ _ _ h=>h.keep hk3).keep hk4 fun _ _ _ h=>h.keep hk4) hl3 (by omega) (by omega) fun r' H5 hk5 hr'=>?_));have hC5:=hC4.addS hr';have hC5':=hC5;unfold Cut at hC5';refine zaa (zaz (c:=n3+r+r') rfl rfl (zca (by omega) (by omega)) ?_);refine zad rfl ?_;refine zab (za1 ?_);refine zad rfl ?_;refine zaa (zaz (c:=((i+1:Nat):Int)) rfl rfl Ju ?_);refine zad rfl ?_;refine zab ⟨(i+1,n3+r+r'),?_,⟨rfl,rfl,rfl,rfl,trivial⟩,hk2.trans0 (hk3.trans0 (hk4.trans0 hk5)),by dsimp only;omega,.inr ⟨hm',?_⟩⟩
  ·show l.length-(i+1)<l.length-i;omega
  ·dsimp only;rw [zbs hx,zg8,zq9];have:sizSs (l.take i)+(1+x.name.length / 8+x.proc.length / 8+sizEs x.e+sizSs x.body+sizSs x.els)=ss+sizEs x.e+sizSs x.body+sizSs x.els:=by omega
   rw [this];exact hC5
def Kp:Nat:=1+3*rB
theorem Size_ok {p:List Prc}(hp:IsPg A H v p) (hQ:∀n H',Keep Non H H'→Cut Kp (sizPs p) 500 n→Q (.int .i64 n) H'):WpF prog tb gl 10 [v,.int .i64 500] H Q:=by
 have hKs:Ks=281474976702465:=rfl;have hKp:Kp=422212465053697:=rfl;have hrB:rB=140737488351232:=rfl;obtain ⟨hpl,u,rfl,hL⟩:=hp;refine fa func10 b10_eq v10_eq r10_eq (.inr (by simp)) ?_;refine zac ?_;refine zaa (zcy rfl fun H1 hk1 hr1=>?_);obtain ⟨b,hb⟩:∃b,b=H.nx:=⟨_,rfl⟩
 rw [←hb] at hr1 ⊢;have hr1:IsRow H1 b [u] false false:=hr1;refine zad rfl ?_;(repeat (((refine zaa (zar rfl ?_)));refine zad rfl ?_));refine zab (zac ?_);refine zad rfl ?_;refine zab (zaj (zac ?_));refine zad rfl ?_;refine zab (zau ?_);refine zbv (fun (a:Nat×Int)=>[(1,.int .i64 500),(2,.ptr b 0),(5,.int .i64 a.2),(6,.int .i64 (a.1:Int))]) (fun a H'=>Keep Non H1 H'∧a.1≤p.length∧Cut Kp (sizPs (p.take a.1)) 500 a.2) (fun a=>p.length-a.1) ?_ (0,0) _ H1 ⟨rfl,rfl,rfl,rfl,trivial⟩ ⟨.refl _ _,Nat.zero_le _,by simp only [List.take_zero,sizPs,Cut];omega⟩;rintro ⟨i,n⟩ H2 ⟨hk2,hle,hC⟩;dsimp only at hle hC ⊢;have hr2:=hr1.keep0 hk2;have hL2:=(hL.keep (hk1.trans0 hk2) fun _ _ _ h=>h.keep (hk1.trans0 hk2))
 obtain ⟨els,hsl,hel⟩:=zbe hL2;have hlt:=zfj p i;have hC':=hC;unfold Cut at hC';refine zaj (zac ?_);refine zad rfl ?_;(repeat ((refine zaa ?_;first|refine zae FpF.h (by decide) rfl ?_|refine zah PlF.h rfl hr2 rfl ?_|refine za3 rfl rfl rfl UnF.h rfl hsl ?_);refine zad rfl ?_));have fin:(i<p.length→500<n)→∀l',Sb [(5,.int .i64 n)] l'→VA prog tb gl v10t3 l' H2 (leftA [.tmp 4] Q):=by
  intro h l' hs';refine VA.sub hs' (zac ?_);refine zad rfl ?_;refine zab (zao ⟨_,rfl,hQ _ _ (hk1.trans0 hk2) ?_⟩);by_cases hi:i<p.length
  ·have:=h hi;unfold Cut;omega
  ·rw [Qd (by omega)] at hC;exact hC
 by_cases hi:i<p.length;rotate_left
 ·(repeat (first|refine zbh rfl ?_|(refine zaa ?_;first|refine zal rfl ?_|refine zcr rfl rfl (by omega) ?_|refine za0 rfl rfl ?_)));refine zab (zag rfl (zbq ?_));exact fin (fun h=>absurd h hi) _ ⟨rfl,trivial⟩
 by_cases hn:n≤500;rotate_left
 ·(repeat (((first|refine zaa ?_|refine zav rfl ?_);first|refine zal rfl ?_|refine zb8 rfl rfl (by omega) ?_|refine zfx rfl rfl (by omega) ?_|refine zaq rfl rfl rfl ?_)));refine zab (zag rfl (zbq ?_));exact fin (fun _=>by omega) _ ⟨rfl,trivial⟩
 (repeat (((first|refine zaa ?_|refine zav rfl ?_);first|refine zal rfl ?_|refine zb8 rfl rfl (by omega) ?_|refine zex rfl rfl (by omega) ?_|refine zaq rfl rfl rfl ?_)));refine zab (zai rfl (zam ?_));obtain ⟨x,hx⟩:∃x,p[i]? = some x:=⟨_,Qa hi⟩
 obtain ⟨cx,hcx,hPx⟩:=hel i x hx;obtain ⟨vm,vb,hcx2,hs1,_,hl1,hl2,hM1,hB1⟩:=hPx;rw [hcx2] at hcx;obtain ⟨mels,hmsl,hmel⟩:=zbe hM1;refine zaj (zau ?_);refine zac ?_;refine zad rfl ?_;refine zaa (zaz (c:=n+1) rfl rfl (zca (by omega) (by omega)) ?_);refine zad rfl ?_;(repeat ((refine zaa ?_;first|refine zae FpF.h (by decide) rfl ?_|refine zah PlF.h rfl hr2 rfl ?_);refine zad rfl ?_));refine zaa (za9 UnF.h SzF.h rfl hsl rfl rfl hi fun q0 hq0=>?_);rw [hcx] at hq0;refine zaa (za6 FpF.h (by decide) rfl hq0 fun q1 hq1=>?_);refine zaa (zby PlF.h rfl hq1 rfl ?_);refine zaa (zb4 rfl rfl rfl UnF.h rfl ?_);refine zaa (zhx (c:=((x.name.length / 8:Nat):Int)) rfl rfl (by decide) (zca (z:=((x.name.length / 8:Nat):Int)) (by omega) (by omega)) ?_);refine zaa (zaz (c:=n+1+(x.name.length / 8:Nat)) rfl rfl (zca (by omega) (by omega)) ?_);refine zad rfl ?_;(repeat ((refine zaa ?_;first|refine zae FpF.h (by decide) rfl ?_|refine zah PlF.h rfl hr2 rfl ?_);refine zad rfl ?_));refine zaa (za9 UnF.h SzF.h rfl hsl rfl rfl hi fun q0 hq0=>?_);rw [hcx] at hq0;refine zaa (za6 FpF.h (by decide) rfl hq0 fun q1 hq1=>?_);refine zaa (zby PlF.h rfl hq1 rfl ?_);refine zaa (za3 rfl rfl rfl UnF.h rfl hmsl ?_);refine zaa (zaz (c:=n+1+(x.name.length / 8:Nat)+(x.params.length:Nat)) rfl rfl (zca (by omega) (by omega)) ?_);refine zad rfl ?_;refine zab (zaj ?_);obtain ⟨ss,hss⟩:∃ss,ss=sizPs (p.take i)+1+x.name.length / 8+x.params.length:=⟨_,rfl⟩
 have hC2:Cut Kp ss 500 (n+1+(x.name.length / 8:Nat)+(x.params.length:Nat)):=by
  unfold Cut at *;omega
 refine zj1 (fun l' H'=>∃n':Int,Keep Non H2 H'∧Cut Kp (ss+sizM x.params) 500 n'∧Sb [(1,.int .i64 500),(2,.ptr b 0),(5,.int .i64 n'),(6,.int .i64 (i:Int))] l') ?_ ?_
 ·refine zac ?_;refine zad rfl ?_;refine zab (zau ?_);refine zbv (fun (a:Nat×Int)=>[(1,.int .i64 500),(2,.ptr b 0),(5,.int .i64 a.2),(6,.int .i64 (i:Int)),(7,.int .i64 (a.1:Int))]) (fun a H'=>H'=H2∧a.1≤x.params.length∧Cut Kp (ss+sizM (x.params.take a.1)) 500 a.2) (fun a=>x.params.length-a.1) ?_ (0,n+1+(x.name.length / 8:Nat)+(x.params.length:Nat)) _ H2 ⟨rfl,rfl,rfl,rfl,rfl,trivial⟩ ⟨rfl,Nat.zero_le _,by simp only [List.take_zero,sizM,Nat.add_zero];exact hC2⟩;rintro ⟨j,n'⟩ H3 ⟨hH3,hle3,hC3⟩;subst hH3;dsimp only at hle3 hC3 ⊢;have hlt3:=zym x.params j;have hC3':=hC3;unfold Cut at hC3';refine zaj (zac ?_);refine zad rfl ?_;(repeat ((refine zaa ?_;first|refine zae FpF.h (by decide) rfl ?_|refine zah PlF.h rfl hr2 rfl ?_);refine zad rfl ?_));refine zaa (za9 UnF.h SzF.h rfl hsl rfl rfl hi fun q0 hq0=>?_);rw [hcx] at hq0;refine zaa (za6 FpF.h (by decide) rfl hq0 fun q1 hq1=>?_);refine zaa (zby PlF.h rfl hq1 rfl ?_);refine zaa (za3 rfl rfl rfl UnF.h rfl hmsl ?_);have fin2:(j<x.params.length→500<n')→Cut Kp (ss+sizM x.params) 500 n':=by
   intro h;by_cases hj:j<x.params.length
   ·have:=h hj;unfold Cut at *;omega
   ·rw [Qd (by omega)] at hC3;exact hC3
  by_cases hj:j<x.params.length;rotate_left
  ·(repeat (first|refine zbh rfl ?_|(refine zaa ?_;first|refine zal rfl ?_|refine zcr rfl rfl (by omega) ?_|refine za0 rfl rfl ?_)));exact zab (zag rfl (zbq ⟨n',.refl _ _,fin2 fun h=>absurd h hj,rfl,rfl,rfl,rfl,trivial⟩))
  by_cases hn':n'≤500;rotate_left
  ·(repeat (((first|refine zaa ?_|refine zav rfl ?_);first|refine zal rfl ?_|refine zb8 rfl rfl (by omega) ?_|refine zfx rfl rfl (by omega) ?_|refine zaq rfl rfl rfl ?_)));exact zab (zag rfl (zbq ⟨n',.refl _ _,fin2 fun _=>by omega,rfl,rfl,rfl,rfl,trivial⟩))
  (repeat (((first|refine zaa ?_|refine zav rfl ?_);first|refine zal rfl ?_|refine zb8 rfl rfl (by omega) ?_|refine zex rfl rfl (by omega) ?_|refine zaq rfl rfl rfl ?_)));refine zab (zai rfl (zam ?_));obtain ⟨y,hy⟩:∃y,x.params[j]? = some y:=⟨_,Qa hj⟩
  obtain ⟨cy,hcy,hcy2,hys,_⟩:=hmel j y hy;rw [hcy2] at hcy;refine zaj (zau (za1 ?_));refine zad rfl ?_;(repeat ((refine zaa ?_;first|refine zae FpF.h (by decide) rfl ?_|refine zah PlF.h rfl hr2 rfl ?_);refine zad rfl ?_));refine zaa (za9 UnF.h SzF.h rfl hsl rfl rfl hi fun q0 hq0=>?_);rw [hcx] at hq0;refine zaa (za6 FpF.h (by decide) rfl hq0 fun q1 hq1=>?_);refine zaa (zby PlF.h rfl hq1 rfl ?_);refine zad rfl ?_;refine zaa (za9 UnF.h SzF.h rfl hmsl rfl rfl hj fun q0 hq0=>?_);rw [hcy] at hq0;refine zaa (za6 FpF.h (by decide) rfl hq0 fun q1 hq1=>?_);refine zaa (zby PlF.h rfl hq1 rfl ?_);refine zaa (zb4 rfl rfl rfl UnF.h rfl ?_);refine zaa (zhx (c:=((y.name.length / 8:Nat):Int)) rfl rfl (by decide) (zca (z:=((y.name.length / 8:Nat):Int)) (by omega) (by omega)) ?_);refine zaa (zaz (c:=n'+(y.name.length / 8:Nat)) rfl rfl (zca (by omega) (by omega)) ?_);refine zad rfl ?_;refine zab (za1 ?_);refine zad rfl ?_;refine zaa (zaz (c:=((j+1:Nat):Int)) rfl rfl Ju ?_);refine zad rfl ?_;refine zab ⟨(j+1,n'+(y.name.length / 8:Nat)),?_,⟨rfl,rfl,rfl,rfl,rfl,trivial⟩,rfl,by dsimp only;omega,?_⟩
  ·show x.params.length-(j+1)<x.params.length-j;omega
  ·dsimp only;rw [zbs hy,zp1,←Nat.add_assoc];unfold Cut at *;omega
 rintro l3 H3 ⟨n3,hk3,hC3,hs3⟩;have hC3':=hC3;unfold Cut at hC3';have hsl3:=hsl.keep0 hk3;have hr3:=hr2.keep0 hk3;refine VA.sub hs3 (za1 ?_);refine zad rfl ?_;(repeat ((refine zaa ?_;first|refine zae FpF.h (by decide) rfl ?_|refine zah PlF.h rfl hr3 rfl ?_);refine zad rfl ?_));refine zaa (za9 UnF.h SzF.h rfl hsl3 rfl rfl hi fun q0 hq0=>?_);rw [hcx] at hq0;refine zaa (za6 FpF.h (by decide) rfl hq0 fun q1 hq1=>?_);refine zaa (zby PlF.h rfl hq1 rfl ?_);refine zad rfl ?_;refine zaa (zc4 (c:=500-n3) rfl rfl (zca (by omega) (by omega)) ?_);refine zaa (zaf rfl rfl rfl (zf6 (szSs x.body+1) (by omega) (hB1.keep hk3 fun _ _ _ h=>h.keep hk3) hl2 (by omega) (by omega) fun r H4 hk4 hr=>?_));have hC4:Cut Kp (ss+sizM x.params+sizSs x.body) 500 (n3+r):=hC3.addS ⟨hr.1,fun h=>(hr.2 h).wide (by omega)⟩;have hC4':=hC4;unfold Cut at hC4';refine zaa (zaz (c:=n3+r) rfl rfl (zca (by omega) (by omega)) ?_);refine zad rfl ?_;refine zab (za1 ?_);refine zad rfl ?_;refine zaa (zaz (c:=((i+1:Nat):Int)) rfl rfl Ju ?_);refine zad rfl ?_;refine zab ⟨(i+1,n3+r),?_,⟨rfl,rfl,rfl,rfl,trivial⟩,hk2.trans0 (hk3.trans0 hk4),by dsimp only;omega,?_⟩
 ·show p.length-(i+1)<p.length-i;omega
 ·dsimp only;rw [zbs hx,zg7];have:sizPs (p.take i)+sizP x=ss+sizM x.params+sizSs x.body:=by simp only [sizP];omega
  rw [this];exact hC4
end
end Go.Proofs.YtniflgldgnmiaaaGreatDoor
